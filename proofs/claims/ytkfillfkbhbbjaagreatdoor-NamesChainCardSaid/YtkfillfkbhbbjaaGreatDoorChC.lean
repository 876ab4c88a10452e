/- The chains of 15 to 20 functions, run by the kernel. -/
import Derived.Test.YtkfillfkbhbbjaaGreatDoorChB
set_option maxRecDepth 100000
set_option maxHeartbeats 4000000
set_option linter.unusedSimpArgs false
set_option linter.unusedVariables false
namespace Go.Proofs.YtkfillfkbhbbjaaGreatDoor
set_option maxRecDepth 1000000 in
set_option maxHeartbeats 0 in
theorem ch_15 : chAll 15 = true := by decide +kernel
set_option maxRecDepth 1000000 in
set_option maxHeartbeats 0 in
theorem ch_16 : chAll 16 = true := by decide +kernel
set_option maxRecDepth 1000000 in
set_option maxHeartbeats 0 in
theorem ch_17 : chAll 17 = true := by decide +kernel
set_option maxRecDepth 1000000 in
set_option maxHeartbeats 0 in
theorem ch_18 : chAll 18 = true := by decide +kernel
set_option maxRecDepth 1000000 in
set_option maxHeartbeats 0 in
theorem ch_19 : chAll 19 = true := by decide +kernel
set_option maxRecDepth 1000000 in
set_option maxHeartbeats 0 in
theorem ch_20 : chAll 20 = true := by decide +kernel
end Go.Proofs.YtkfillfkbhbbjaaGreatDoor
