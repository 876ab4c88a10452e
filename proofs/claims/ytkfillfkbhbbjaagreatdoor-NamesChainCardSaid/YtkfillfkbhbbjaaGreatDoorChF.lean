/- The closed facts of the row. -/
import Derived.Test.YtkfillfkbhbbjaaGreatDoorRows
import Derived.ProofKit
import Derived.OpenShut
import Derived.LaidMore
import Derived.Lay
set_option maxRecDepth 100000
set_option maxHeartbeats 4000000
set_option linter.unusedSimpArgs false
set_option linter.unusedVariables false
namespace Go.Proofs.YtkfillfkbhbbjaaGreatDoor.namesChain
open Go.ChangeShapes Go.WideShapes Go.ChangeAt Go.RowKit Go.WideMaps Go.WideElems
theorem closed : joinedFacts Tryz.prog 5 Tryz.f5 Rows.namesChainSpec Rows.namesChainRow = true := by
 unfold joinedFacts
 simp only [Bool.and_eq_true]
 repeat' apply And.intro
 all_goals (as_aux_lemma => kernel_rfl)
theorem named : Tryz.prog.funcNamed Rows.namesChainRow.func = some 5 := by kernel_rfl
theorem inst : Tryz.f5.isInstance Tryz.prog Rows.namesChainRow.origin Rows.namesChainRow.targs := of_decide_eq_true (by kernel_rfl)
set_option maxRecDepth 100000 in
theorem wrap : Tryz.f5.isWrapper Tryz.prog Rows.namesChainRow.wrapper Rows.namesChainRow.mainSum := by unfold Func.isWrapper; first | (rw [if_pos (by decide +kernel)]; kernel_rfl) | (rw [if_neg (by decide +kernel)]; exact ⟨rfl, rfl⟩)
end Go.Proofs.YtkfillfkbhbbjaaGreatDoor.namesChain
