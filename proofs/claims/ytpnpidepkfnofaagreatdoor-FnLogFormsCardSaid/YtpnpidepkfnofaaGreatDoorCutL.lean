/- Plain: rows of bytes cut at each byte of a kind. -/
import Derived.WalkKit
namespace Go.Proofs.YtpnpidepkfnofaaGreatDoor
open Go.RowKit

/-- the same over lists -/
def cutL (b : UInt8) : List UInt8 → List (List UInt8)
  | [] => [[]]
  | x :: l => if x = b then [] :: cutL b l else match cutL b l with
    | [] => [[x]]
    | p :: ps => (x :: p) :: ps
def hook (p : List UInt8) : List (List UInt8) → List (List UInt8)
  | [] => [p]
  | q :: qs => (p ++ q) :: qs
theorem cutL_cons (b x : UInt8) (l : List UInt8) : cutL b (x :: l) = if x = b then [] :: cutL b l else hook [x] (cutL b l) := by
  rw [cutL]
  split
  · rfl
  · cases cutL b l <;> rfl
theorem hook_hook (p q : List UInt8) (L : List (List UInt8)) : hook p (hook q L) = hook (p ++ q) L := by
  cases L <;> simp [hook]
theorem hook_nil : ∀ (L : List (List UInt8)), L ≠ [] → hook [] L = L
  | [], h => absurd rfl h
  | _ :: _, _ => rfl
theorem cutL_ne (b : UInt8) (l : List UInt8) : cutL b l ≠ [] := by
  cases l with
  | nil => simp [cutL]
  | cons x l =>
    rw [cutL_cons]
    split
    · simp
    · cases cutL b l <;> simp [hook]
theorem cutL_line (b : UInt8) : ∀ (p l : List UInt8), b ∉ p → cutL b (p ++ b :: l) = p :: cutL b l
  | [], l, _ => by rw [List.nil_append, cutL_cons, if_pos rfl]
  | x :: p, l, h => by
    have hx : x ≠ b := fun e => h (by simp [e])
    rw [List.cons_append, cutL_cons, if_neg hx, cutL_line b p l (fun hm => h (by simp [hm]))]
    rfl
theorem cutL_one (b : UInt8) : ∀ (p : List UInt8), b ∉ p → cutL b p = [p]
  | [], _ => rfl
  | x :: p, h => by
    have hx : x ≠ b := fun e => h (by simp [e])
    rw [cutL_cons, if_neg hx, cutL_one b p (fun hm => h (by simp [hm]))]
    rfl
end Go.Proofs.YtpnpidepkfnofaaGreatDoor
