/- Part 34. -/
import Derived.Test.YtaamhakdhaolmaaGreatDoorAbh
namespace Go.Proofs.YtaamhakdhaolmaaGreatDoor
open Go.RowKit
set_option maxHeartbeats 8000000
set_option maxRecDepth 100000
variable {P:Prop}
set_option linter.all false
def walk_FnExactRunLines(s:aj)(hs:s.size<=maxLen)(w)(hE:PEnv w):
 Rv 6 #[s] w true:=by
 have ad:=hs;unfold maxLen at ad;by_cases hb:s.size<=1048576
 .have hi:¬(1048576:Int)<(s.size:Int):=o_;generalize gm (cI s)=R at *;go_enter Tryz.func6,Tryz.ntmps6;go_wp2_with fail
  refine ai ((h_ (λW (hW:PEnv W)=>Nt s hb W hW.1)).out w hE) λw1 I=>?_;go_wp2_with fail
  refine ai ((h_ (λW (hW:PEnv W)=>Ng s hb W hW)).out w1 (hE.below I)) λw2 U=>?_;go_wp2;go_ret;exact⟨rfl,(af U I.size I)⟩
 .have hi:(1048576:Int)<(s.size:Int):=o_;go_enter Tryz.func6,Tryz.ntmps6;exact nU
end Go.Proofs.YtaamhakdhaolmaaGreatDoor
