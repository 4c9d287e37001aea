/- What follows a region of a function, taken out of its translation; how a law's walk ends. -/
import Derived.Test.YtpnpidepkfnofaaGreatDoorCurve
import Derived.Deep.Cut
namespace Go.Proofs.YtpnpidepkfnofaaGreatDoor
open Go.RowKit

def firstReg : Code → Option Nat
  | .region i _ _ => some i
  | .seq a _ => firstReg a
  | .block _ c => firstReg c
  | .loop c => firstReg c
  | .scope c => firstReg c
  | _ => none
def restAt (n : Nat) : Code → Option Code
  | .seq a b => if firstReg a == some n then some (.seq a b) else match restAt n a with
    | some c => some c
    | none => restAt n b
  | .block _ c => restAt n c
  | .loop c => restAt n c
  | .scope c => restAt n c
  | .cond _ a b => match restAt n a with
    | some c => some c
    | none => restAt n b
  | _ => none
def headOf : Code → Code
  | .seq a _ => a
  | c => c
def tailOf : Code → Code
  | .seq _ b => b
  | c => c
/-- the law is about to answer true (r: the slot of its result) -/
def Done (r : Nat) (w : World) (a : Act) (w' : World) : Prop := a.tmps[r]? = some (.bool true) ∧ a.defers = [] ∧ Below w.heap.size w w'
end Go.Proofs.YtpnpidepkfnofaaGreatDoor
