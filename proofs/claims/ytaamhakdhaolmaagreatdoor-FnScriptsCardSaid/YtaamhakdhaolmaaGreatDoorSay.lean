/- Part 24. -/
import Derived.Test.YtaamhakdhaolmaaGreatDoorRows
import Derived.ProofKit
import Derived.OpenShut
import Derived.Lib.SmallJoins
import Derived.Lib.Bytealg
import Derived.Lib.Strings
import Derived.Lib.Walk
import Derived.Lib.Hide
import Derived.Test.YtaamhakdhaolmaaGreatDoorSaa
namespace Go.Proofs.YtaamhakdhaolmaaGreatDoor
open Go.RowKit Go.Proofs.Tryz
set_option maxHeartbeats 8000000
set_option maxRecDepth 100000
variable {P:Prop}
set_option linter.all false
def i_(s:ak):Bool:=Lib.hasSuffix s.data.toList [10]
def cntN(s:ak):Nat:=Lib.countByte s.data.toList 10
def bf(s:ak):Bool:=decide ((s.size:Int)<=2000)&&(s.toList.isEmpty||i_ s)&&decide ((cntN s:Int)<=40)
def Ef(s):cntN s<=s.size:=by
 have:=List.count_le_length (l:=s.data.toList) (a:=(10:UInt8));rw[show s.data.toList.length=s.size from Vy] at this;exact this
def P_(s)(h:s.size - 1<s.size):i_ s=(s[s.size - 1]==10):=by
 have hl:s.data.toList.length=s.size:=Vy;have hne:s.data.toList≠[]:=by intro h9;rw[h9] at hl;have:s.size=0:=hl.symm;omega
 have hx:=List.dropLast_concat_getLast hne;have hg:s.data.toList.getLast hne=s[s.size - 1]:=by
  rw[Yi];simp;rfl
 unfold i_ Lib.hasSuffix;rw[<-hg];generalize s.data.toList.getLast hne=x at hx ⊢;rw[<-hx];cases hb:(x==10)
 .have:¬([10]:List UInt8)<:+s.data.toList.dropLast++[x]:=by
   intro h9;have⟨t,ht⟩:=h9;have:=List.append_inj_right' ht rfl;simp at this;rw[<-this] at hb;simp at hb
  rw[Bool.eq_false_iff];intro h8;exact this (WN.1 h8)
 .have:=by simpa using hb
  subst this;exact WN.2 ⟨_,rfl⟩
def Qa(s:ak)(w)(hs:s.size<=100000000):
 Calls prog 94 #[s,.string ⟨#[10]⟩] w λe w'=>e=.returned (.bool (i_ s))/\w=w':=by
 have ba:(⟨#[10]⟩:ak).toList=[10]:=Vw _;have H:Hid (i_ s=(decide (1<=s.size)&&((s.extract (s.size - 1) s.size).toList==[10]))):=by
  have:=(Lib.hasSuffix_raw s ⟨#[10]⟩).symm;rw[ba] at this;exact this
 go_enter func94,ntmps94;go_wp2
 all_goals (go_ret;rw[H.out];refine⟨show Ending.returned (Value.bool _)=_ from ?_,rfl⟩;simp_all;try omega)
def Q2(s:ak)(w)(hs:s.size<=100000000):
 Calls prog 59 #[s,.string ⟨#[10]⟩] w λe w'=>e=.returned (.bool (i_ s))/\w=w':=by
 go_enter func59,ntmps59;go_wp2_with ((go_at_call 94;refine aA (Qa _ _ hs) ?_))
 go_ret;exact⟨rfl,rfl⟩
def SJ(s:ak)(w):
 Calls prog 60 #[s,.string ⟨#[10]⟩] w λe w'=>e=.returned (cntN s)/\w=w':=by
 go_enter func60,ntmps60;go_wp2;rw[YG func96 k_ k_ k_ (e:=Extern.BytealgCount.count) k_,Lib.run_countString];simp;rw[Oper.upon_value];go_wp2;go_ret;exact⟨rfl,rfl⟩
def oT(s:ak)(w)(hs:s.size<=100000000):
 Calls prog 47 #[s] w λe w'=>e=.returned (.bool (bf s))/\w=w':=by
 have hc:(cntN s:Int)<=100000000:=by have:=Ef s;omega
 go_enter func47,ntmps47;go_wp2_with (first|(go_at_call 59;refine aA (Q2 _ _ hs) ?_)|(go_at_call 60;refine aA (SJ _ _) ?_))
 all_goals (go_ret;refine⟨show Ending.returned (Value.bool _)=_ from ?_,rfl⟩;unfold bf;simp_all;try omega)
end Go.Proofs.YtaamhakdhaolmaaGreatDoor
