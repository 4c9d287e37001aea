/- Plain: the curves of a log. -/
import Derived.Test.YtpnpidepkfnofaaStepPlain
import Derived.Test.YtpnpidepkfnofaaLog
namespace Go.Proofs.Ytpnpidepkfnofaa
open Go.RowKit

def stC (c s : Int × Int) : Int × Int := (apA s.1 c.1 s.2, apB s.1 c.2 s.2)
def okS (c s : Int × Int) : Bool := apOk s.1 c.1 c.2 s.2
def crO (c : Int × Int) : List (Int × Int) → Bool
  | [] => true
  | s :: L => okS c s && crO (stC c s) L
def crL (c : Int × Int) : List (Int × Int) → List (Int × Int)
  | [] => [c]
  | s :: L => c :: crL (stC c s) L
def crE (c : Int × Int) (L : List (Int × Int)) : Int × Int := L.foldl stC c
theorem crE_take (c : Int × Int) (L : List (Int × Int)) {k : Nat} (h : k < L.length) : crE c (L.take (k + 1)) = stC (crE c (L.take k)) L[k] := by
  unfold crE
  rw [List.take_succ_eq_append_getElem h, List.foldl_append]; rfl
theorem crL_len : ∀ (L : List (Int × Int)) (c : Int × Int), (crL c L).length = L.length + 1
  | [], _ => rfl
  | s :: L, c => by simp [crL, crL_len L]
theorem crL_snoc : ∀ (L : List (Int × Int)) (c s : Int × Int), crL c (L ++ [s]) = crL c L ++ [stC (crE c L) s]
  | [], _, _ => rfl
  | x :: L, c, s => by simp [crL, crE, crL_snoc L]
theorem crL_take (c : Int × Int) (L : List (Int × Int)) {k : Nat} (h : k < L.length) : crL c (L.take (k + 1)) = crL c (L.take k) ++ [stC (crE c (L.take k)) L[k]] := by
  rw [List.take_succ_eq_append_getElem h, crL_snoc]
theorem crL_last : ∀ (L : List (Int × Int)) (c : Int × Int) (h : L.length < (crL c L).length), (crL c L)[L.length] = crE c L
  | [], _, _ => rfl
  | s :: L, c, h => by
    have := crL_last L (stC c s) (by rw [crL_len]; omega)
    simpa [crL, crE] using this
theorem crO_drop (L : List (Int × Int)) : ∀ (c : Int × Int) (k : Nat) (h : k < L.length), crO c (L.drop k) = (okS c L[k] && crO (stC c L[k]) (L.drop (k + 1))) := by
  intro c k h
  rw [List.drop_eq_getElem_cons h]; rfl
theorem crO_end (L : List (Int × Int)) (c : Int × Int) : crO c (L.drop L.length) = true := by simp [crO]
theorem stC_curve {c s : Int × Int} (hs : stepB s.1 s.2 = true) (hc : curveB c.1 c.2 = true) (ho : okS c s = true) : curveB (stC c s).1 (stC c s).2 = true := ap_curve hs hc ho
noncomputable def ccO (c : Int × Int) (L : List (Int × Int)) : Bool := curveB c.1 c.2 && logB L && crO c L
noncomputable def ccL (c : Int × Int) (L : List (Int × Int)) : List (Int × Int) := if ccO c L then crL c L else []
theorem ccL_len (c : Int × Int) (L : List (Int × Int)) : (ccL c L).length ≤ 21 := by
  unfold ccL ccO
  split
  · rename_i h
    simp only [Bool.and_eq_true] at h
    have := (logB_of h.1.2).1
    rw [crL_len]; omega
  · simp
end Go.Proofs.Ytpnpidepkfnofaa
