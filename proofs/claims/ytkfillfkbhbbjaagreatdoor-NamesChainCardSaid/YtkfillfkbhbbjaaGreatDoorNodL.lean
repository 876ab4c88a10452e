/- The loop over kids. Made by a program (check.py, walk.py). -/
import Derived.Test.YtkfillfkbhbbjaaGreatDoorKinL
set_option maxRecDepth 100000
set_option maxHeartbeats 4000000
set_option linter.unusedSimpArgs false
set_option linter.unusedVariables false
namespace Go.Proofs.YtkfillfkbhbbjaaGreatDoor
open Go.RowKit
def KidLoop (K : CKey) (rec : NRec) (kids : List Node) (st' : NS) (T0 : Nat → Prop) (w : World) (B : Nat) (ob : Obj) (g : Nat) (j : Value) (W : World) : Prop :=
 ∃ k : Nat, j = .int .i64 k ∧ k ≤ kids.length ∧ g + k = kids.length + 1 ∧ ∃ st T ua uc, kidsF rec (kids.drop k) st = some st' ∧ CK K T ua uc st W ∧ CStep K T0 T w W ∧ W.heap[B]? = some ob ∧ Off K T B
end Go.Proofs.YtkfillfkbhbbjaaGreatDoor
