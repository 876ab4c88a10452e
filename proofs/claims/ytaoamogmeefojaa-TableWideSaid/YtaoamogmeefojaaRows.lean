/-
  No cell of these rows narrows 'for every input' (looked for: loops, veiled, ifaces, maps, wideKeys, modest, calm, conditions, laid).
  DERIVED. THE GIVEN ROWS OF THIS SEAT. 4 by the template 'for every input the law returns true; each argument reads behind the call as it read before'; 0 by the template 'total and deterministic' (their statements: YtaoamogmeefojaaTotals.lean).
  GIVEN WITH THE SEED: the statements are not yours to turn. If you find one false, say at which input.
  Laid BY PROGRAM, IN A SANDBOX (cutbox-rows.mjs): the forced cells as the released guide's own fill.sh prints them over the translation 661df4bf297d5b0c… (all of the seat's roots in one cut). By AI agents, Wed Nov 11 2026. No macro, syntax, notation, axiom, sorry.
-/
import Derived.Test.YtaoamogmeefojaaChecked
import GoSem.Claim
import GoSem.ClaimJoined
import GoSem.ClaimMapViews
import Derived.JoinedTies
import Derived.KernelRfl
namespace Go.Proofs.Ytaoamogmeefojaa
/- THE CELL 'sum', in the pinned program and in every row, IS THE sha256 OF THE DUMP (.gsa) THAT YtaoamogmeefojaaProg.lean LOADS. Nothing in Lean hashes anything: it is a label: what it is worth is what the hold of that sum in a sandbox is worth. -/
noncomputable def Try.pinned : Pinned := { name := "ytaoamogmeefojaa", sum := "661df4bf297d5b0cd02861455c8d70633f18165c648598462454b215d7a754f5", checked := Try.checked }
namespace Rows
def none {H : Type} : Left H := { results := [], args := [] }

/-- 'tailracelaw15.TableOrder': WHATEVER THE INPUT: true; the input reads as it did. -/
def tableOrderSpec : ChangeSpec := { name := "tableOrder", fn := fun _ => fun
  | [d] => { results := [.lit (.bool true)], args := [d] }
  | _ => none }
def tableOrderRow : OpenClaim := { program := "ytaoamogmeefojaa", sum := "661df4bf297d5b0cd02861455c8d70633f18165c648598462454b215d7a754f5", func := "tailrace/tailracelaw15.TableOrder", spec := "tableOrder", apart := false }
def TableOrderSaid : Prop := tableOrderRow.holds Try.pinned (OpenSpec.ofChange tableOrderSpec)

/-- ITS FALSE NEIGHBOUR: 'it returns false'. Refute it at one input. -/
def tableOrderWrong : ChangeSpec := { name := "tableOrder", fn := fun _ => fun
  | [d] => { results := [.lit (.bool false)], args := [d] }
  | _ => none }
def TableOrderWrongFalsely : Prop := tableOrderRow.holds Try.pinned (OpenSpec.ofChange tableOrderWrong)

/-- 'tailracelaw15.TableWide': WHATEVER THE INPUT: true; the input reads as it did. -/
def tableWideSpec : ChangeSpec := { name := "tableWide", fn := fun _ => fun
  | [d1, d2, d3] => { results := [.lit (.bool true)], args := [d1, d2, d3] }
  | _ => none }
def tableWideRow : OpenClaim := { program := "ytaoamogmeefojaa", sum := "661df4bf297d5b0cd02861455c8d70633f18165c648598462454b215d7a754f5", func := "tailrace/tailracelaw15.TableWide", spec := "tableWide", apart := false }
def TableWideSaid : Prop := tableWideRow.holds Try.pinned (OpenSpec.ofChange tableWideSpec)

/-- ITS FALSE NEIGHBOUR: 'it returns false'. Refute it at one input. -/
def tableWideWrong : ChangeSpec := { name := "tableWide", fn := fun _ => fun
  | [d1, d2, d3] => { results := [.lit (.bool false)], args := [d1, d2, d3] }
  | _ => none }
def TableWideWrongFalsely : Prop := tableWideRow.holds Try.pinned (OpenSpec.ofChange tableWideWrong)

/-- 'tailracelaw15.TableLives': WHATEVER THE INPUT: true; the input reads as it did. -/
def tableLivesSpec : ChangeSpec := { name := "tableLives", fn := fun _ => fun
  | [d1, d2, d3] => { results := [.lit (.bool true)], args := [d1, d2, d3] }
  | _ => none }
def tableLivesRow : OpenClaim := { program := "ytaoamogmeefojaa", sum := "661df4bf297d5b0cd02861455c8d70633f18165c648598462454b215d7a754f5", func := "tailrace/tailracelaw15.TableLives", spec := "tableLives", apart := false }
def TableLivesSaid : Prop := tableLivesRow.holds Try.pinned (OpenSpec.ofChange tableLivesSpec)

/-- ITS FALSE NEIGHBOUR: 'it returns false'. Refute it at one input. -/
def tableLivesWrong : ChangeSpec := { name := "tableLives", fn := fun _ => fun
  | [d1, d2, d3] => { results := [.lit (.bool false)], args := [d1, d2, d3] }
  | _ => none }
def TableLivesWrongFalsely : Prop := tableLivesRow.holds Try.pinned (OpenSpec.ofChange tableLivesWrong)

/-- 'tailracelaw15.TableKnown': WHATEVER THE INPUT: true; the input reads as it did. -/
def tableKnownSpec : ChangeSpec := { name := "tableKnown", fn := fun _ => fun
  | [] => { results := [.lit (.bool true)], args := [] }
  | _ => none }
def tableKnownRow : OpenClaim := { program := "ytaoamogmeefojaa", sum := "661df4bf297d5b0cd02861455c8d70633f18165c648598462454b215d7a754f5", func := "tailrace/tailracelaw15.TableKnown", spec := "tableKnown", apart := false }
def TableKnownSaid : Prop := tableKnownRow.holds Try.pinned (OpenSpec.ofChange tableKnownSpec)

/-- ITS FALSE NEIGHBOUR: 'it returns false'. Refute it at one input. -/
def tableKnownWrong : ChangeSpec := { name := "tableKnown", fn := fun _ => fun
  | [] => { results := [.lit (.bool false)], args := [] }
  | _ => none }
def TableKnownWrongFalsely : Prop := tableKnownRow.holds Try.pinned (OpenSpec.ofChange tableKnownWrong)

/- THE SECOND FORM. 'bulk': how many values and letters a reading holds, each counted each time it is reached (what is shared counts as often as it is met; a slice's spare places count too). A statement '..UptoSaid' is the law's where the arguments, and the package variables that the reading takes, are together of bulk at most 1048576: NARROWER than '..Said'. Prove '..Said' where nothing that the law and all that it calls make is longer than what came in: it says more and counts as full. Else prove '..UptoSaid'. A law counts once. -/
mutual
def uptoBulk {H : Type} : DataW H → Nat
  | .lit (.string bytes) => bytes.length + 1
  | .lit _ => 1
  | .nil => 1
  | .ptr d => uptoBulk d + 1
  | .slice elems spare => uptoBulkAll elems + uptoBulkAll spare + 1
  | .agg parts => uptoBulkAll parts + 1
  | .iface _ d => uptoBulk d + 1
  | .map entries => uptoBulkEntries entries + 1
  | .held _ => 1
def uptoBulkAll {H : Type} : List (DataW H) → Nat
  | [] => 0
  | d :: r => uptoBulk d + uptoBulkAll r
def uptoBulkEntries {H : Type} : List (Lit × DataW H) → Nat
  | [] => 0
  | x :: r => uptoBulkEntry x + uptoBulkEntries r
def uptoBulkEntry {H : Type} : Lit × DataW H → Nat
  | (.string bytes, d) => bytes.length + uptoBulk d + 1
  | (_, d) => uptoBulk d + 1
 end
def uptoSmall : (H : Type) → List (DataW H) → Bool := fun _ ds => decide (uptoBulkAll ds ≤ 1048576)
def OpenSpec.upto (s : _root_.Go.ChangeSpec) : _root_.Go.OpenSpec := { _root_.Go.OpenSpec.ofChange s with cond := some uptoSmall }

/-- 'tailracelaw15.TableOrder', WHERE WHAT IT READS IS OF BULK AT MOST 1048576: true; the input reads as it did. -/
def tableOrderUptoRow : OpenClaim := { program := "ytaoamogmeefojaa", sum := "661df4bf297d5b0cd02861455c8d70633f18165c648598462454b215d7a754f5", func := "tailrace/tailracelaw15.TableOrder", spec := "tableOrder", apart := false, narrowed := true }
def TableOrderUptoSaid : Prop := tableOrderUptoRow.holds Try.pinned (OpenSpec.upto tableOrderSpec)

/-- 'tailracelaw15.TableWide', WHERE WHAT IT READS IS OF BULK AT MOST 1048576: true; the input reads as it did. -/
def tableWideUptoRow : OpenClaim := { program := "ytaoamogmeefojaa", sum := "661df4bf297d5b0cd02861455c8d70633f18165c648598462454b215d7a754f5", func := "tailrace/tailracelaw15.TableWide", spec := "tableWide", apart := false, narrowed := true }
def TableWideUptoSaid : Prop := tableWideUptoRow.holds Try.pinned (OpenSpec.upto tableWideSpec)

/-- 'tailracelaw15.TableLives', WHERE WHAT IT READS IS OF BULK AT MOST 1048576: true; the input reads as it did. -/
def tableLivesUptoRow : OpenClaim := { program := "ytaoamogmeefojaa", sum := "661df4bf297d5b0cd02861455c8d70633f18165c648598462454b215d7a754f5", func := "tailrace/tailracelaw15.TableLives", spec := "tableLives", apart := false, narrowed := true }
def TableLivesUptoSaid : Prop := tableLivesUptoRow.holds Try.pinned (OpenSpec.upto tableLivesSpec)

/-- 'tailracelaw15.TableKnown', WHERE WHAT IT READS IS OF BULK AT MOST 1048576: true; the input reads as it did. -/
def tableKnownUptoRow : OpenClaim := { program := "ytaoamogmeefojaa", sum := "661df4bf297d5b0cd02861455c8d70633f18165c648598462454b215d7a754f5", func := "tailrace/tailracelaw15.TableKnown", spec := "tableKnown", apart := false, narrowed := true }
def TableKnownUptoSaid : Prop := tableKnownUptoRow.holds Try.pinned (OpenSpec.upto tableKnownSpec)

end Rows
end Go.Proofs.Ytaoamogmeefojaa
