/- Part 23. -/
import Derived.Test.YtaamhakdhaolmaaGreatDoorRows
import Derived.ProofKit
import Derived.OpenShut
import Derived.Lib.SmallJoins
import Derived.Lib.Bytealg
import Derived.Lib.Strings
import Derived.Lib.Walk
import Derived.Lib.Hide
import Derived.Test.YtaamhakdhaolmaaGreatDoorAaa
namespace Go.Proofs.YtaamhakdhaolmaaGreatDoor
open Go.RowKit
set_option maxHeartbeats 8000000
set_option maxRecDepth 100000
variable {P:Prop}
set_option linter.all false
def kt(s:aj):Bool:=Lib.hasSuffix s.data.toList [10]
def az(s:aj):Nat:=Lib.countByte s.data.toList 10
def bO(s:aj):Bool:=decide ((s.size:Int)<=2000)&&(s.toList.isEmpty||kt s)&&decide ((az s:Int)<=40)
def DA(s):az s<=s.size:=by
 have:=List.count_le_length (l:=s.data.toList) (a:=(10:UInt8));rw[show s.data.toList.length=s.size from UC] at this;exact this
def Pg(s)(h:s.size - 1<s.size):kt s=(s[s.size - 1]==10):=by
 have hl:s.data.toList.length=s.size:=UC;have hne:s.data.toList≠[]:=by intro h9;rw[h9] at hl;have:s.size=0:=hl.symm;omega
 have hx:=List.dropLast_concat_getLast hne;have hg:s.data.toList.getLast hne=s[s.size - 1]:=by
  rw[Xh];simp;rfl
 unfold kt Lib.hasSuffix;rw[<-hg];generalize s.data.toList.getLast hne=x at hx ⊢;rw[<-hx];cases hb:(x==10)
 .have:¬([10]:List UInt8)<:+s.data.toList.dropLast++[x]:=by
   intro h9;have⟨t,ht⟩:=h9;have:=List.append_inj_right' ht rfl;simp at this;rw[<-this] at hb;simp at hb
  rw[Bool.eq_false_iff];intro h8;exact this (Wa.1 h8)
 .have:=by simpa using hb
  subst this;exact Wa.2 ⟨_,rfl⟩
def Ph(s:aj)(w)(hs:s.size<=100000000):
 Calls Tryz.prog 94 #[s,.string ⟨#[10]⟩] w λe w'=>e=.returned (.bool (kt s))/\w=w':=by
 have cm:(⟨#[10]⟩:aj).toList=[10]:=Uy _;have H:Hid (kt s=(decide (1<=s.size)&&((s.extract (s.size - 1) s.size).toList==[10]))):=by
  have:=(Lib.hasSuffix_raw s ⟨#[10]⟩).symm;rw[cm] at this;exact this
 go_enter Tryz.func94,Tryz.ntmps94;go_wp2
 all_goals (go_ret;rw[H.out];refine⟨show Ending.returned (Value.bool _)=_ from ?_,rfl⟩;simp_all;try omega)
def Qh(s:aj)(w)(hs:s.size<=100000000):
 Calls Tryz.prog 59 #[s,.string ⟨#[10]⟩] w λe w'=>e=.returned (.bool (kt s))/\w=w':=by
 go_enter Tryz.func59,Tryz.ntmps59;go_wp2_with ((go_at_call 94;refine ay (Ph _ _ hs) ?_))
 go_ret;exact⟨rfl,rfl⟩
def RF(s:aj)(w):
 Calls Tryz.prog 60 #[s,.string ⟨#[10]⟩] w λe w'=>e=.returned (az s)/\w=w':=by
 go_enter Tryz.func60,Tryz.ntmps60;go_wp2;rw[XD Tryz.func96 k_ k_ k_ (e:=Extern.BytealgCount.count) k_,Lib.run_countString];simp;rw[Oper.upon_value];go_wp2;go_ret;exact⟨rfl,rfl⟩
def wY(s:aj)(w)(hs:s.size<=100000000):
 Calls Tryz.prog 47 #[s] w λe w'=>e=.returned (.bool (bO s))/\w=w':=by
 have hc:(az s:Int)<=100000000:=by have:=DA s;omega
 go_enter Tryz.func47,Tryz.ntmps47;go_wp2_with (first|(go_at_call 59;refine ay (Qh _ _ hs) ?_)|(go_at_call 60;refine ay (RF _ _) ?_))
 all_goals (go_ret;refine⟨show Ending.returned (Value.bool _)=_ from ?_,rfl⟩;unfold bO;simp_all;try omega)
end Go.Proofs.YtaamhakdhaolmaaGreatDoor
