/- The chains of 1 to 14 functions, run by the kernel. -/
import Derived.Test.YtkfillfkbhbbjaaGreatDoorChD
import Derived.Test.YtkfillfkbhbbjaaGreatDoorFast
set_option maxRecDepth 100000
set_option maxHeartbeats 4000000
set_option linter.unusedSimpArgs false
set_option linter.unusedVariables false
namespace Go.Proofs.YtkfillfkbhbbjaaGreatDoor
def chOk (n : Nat) (a o : Bool) : Bool := match evalF (textS n a o n) with
 | some y => if a && o then y.e == 30 else (y.e == 0 && y.info.params.length == n && Nat.ble y.info.arrays.length 5 && y.info.params.all (fun l => l == [a]) && (strsF y.info.arrays [⟨#[116]⟩] == a))
 | none => false
def chAll (n : Nat) : Bool := chOk n true true && chOk n true false && chOk n false true && chOk n false false
set_option maxRecDepth 1000000 in
set_option maxHeartbeats 0 in
theorem ch_1 : chAll 1 = true := by decide +kernel
set_option maxRecDepth 1000000 in
set_option maxHeartbeats 0 in
theorem ch_2 : chAll 2 = true := by decide +kernel
set_option maxRecDepth 1000000 in
set_option maxHeartbeats 0 in
theorem ch_3 : chAll 3 = true := by decide +kernel
set_option maxRecDepth 1000000 in
set_option maxHeartbeats 0 in
theorem ch_4 : chAll 4 = true := by decide +kernel
set_option maxRecDepth 1000000 in
set_option maxHeartbeats 0 in
theorem ch_5 : chAll 5 = true := by decide +kernel
set_option maxRecDepth 1000000 in
set_option maxHeartbeats 0 in
theorem ch_6 : chAll 6 = true := by decide +kernel
set_option maxRecDepth 1000000 in
set_option maxHeartbeats 0 in
theorem ch_7 : chAll 7 = true := by decide +kernel
set_option maxRecDepth 1000000 in
set_option maxHeartbeats 0 in
theorem ch_8 : chAll 8 = true := by decide +kernel
set_option maxRecDepth 1000000 in
set_option maxHeartbeats 0 in
theorem ch_9 : chAll 9 = true := by decide +kernel
set_option maxRecDepth 1000000 in
set_option maxHeartbeats 0 in
theorem ch_10 : chAll 10 = true := by decide +kernel
set_option maxRecDepth 1000000 in
set_option maxHeartbeats 0 in
theorem ch_11 : chAll 11 = true := by decide +kernel
set_option maxRecDepth 1000000 in
set_option maxHeartbeats 0 in
theorem ch_12 : chAll 12 = true := by decide +kernel
set_option maxRecDepth 1000000 in
set_option maxHeartbeats 0 in
theorem ch_13 : chAll 13 = true := by decide +kernel
set_option maxRecDepth 1000000 in
set_option maxHeartbeats 0 in
theorem ch_14 : chAll 14 = true := by decide +kernel
end Go.Proofs.YtkfillfkbhbbjaaGreatDoor
