/-
  No cell of these rows narrows 'for every input' (looked for: loops, veiled, ifaces, maps, wideKeys, modest, calm, conditions, laid).
  DERIVED. THE GIVEN ROWS OF THIS SEAT. 6 by the template 'for every input the law returns true; each argument reads behind the call as it read before'; 0 by the template 'total and deterministic' (their statements: YtjbaaefkijgfkaaTotals.lean).
  GIVEN WITH THE SEED: the statements are not yours to turn. If you find one false, say at which input.
  Laid BY PROGRAM, IN A SANDBOX (cutbox-rows.mjs): the forced cells as the released guide's own fill.sh prints them over the translation 635ede97fbc4bda5… (all of the seat's roots in one cut). By AI agents, Wed Nov 11 2026. No macro, syntax, notation, axiom, sorry.
-/
import Derived.Test.YtjbaaefkijgfkaaChecked
import GoSem.Claim
import GoSem.ClaimJoined
import GoSem.ClaimMapViews
import Derived.JoinedTies
import Derived.KernelRfl
namespace Go.Proofs.Ytjbaaefkijgfkaa
/- THE CELL 'sum', in the pinned program and in every row, IS THE sha256 OF THE DUMP (.gsa) THAT YtjbaaefkijgfkaaProg.lean LOADS. Nothing in Lean hashes anything: it is a label: what it is worth is what the hold of that sum in a sandbox is worth. -/
noncomputable def Try.pinned : Pinned := { name := "ytjbaaefkijgfkaa", sum := "635ede97fbc4bda5bb4c6357c91e1b64ac49a835d0c43d8139f01da4db1b46d0", checked := Try.checked }
namespace Rows
def none {H : Type} : Left H := { results := [], args := [] }

/-- 'laws.FnExactQueueOk': WHATEVER THE INPUT: true; the input reads as it did. -/
def fnExactQueueOkSpec : ChangeSpec := { name := "fnExactQueueOk", fn := fun _ => fun
  | [d] => { results := [.lit (.bool true)], args := [d] }
  | _ => none }
def fnExactQueueOkRow : OpenClaim := { program := "ytjbaaefkijgfkaa", sum := "635ede97fbc4bda5bb4c6357c91e1b64ac49a835d0c43d8139f01da4db1b46d0", func := "loop.example/g00761/laws.FnExactQueueOk", spec := "fnExactQueueOk", unfollowed := true, recurses := true, apart := false }
def FnExactQueueOkSaid : Prop := fnExactQueueOkRow.holds Try.pinned (OpenSpec.ofChange fnExactQueueOkSpec)

/-- ITS FALSE NEIGHBOUR: 'it returns false'. Refute it at one input. -/
def fnExactQueueOkWrong : ChangeSpec := { name := "fnExactQueueOk", fn := fun _ => fun
  | [d] => { results := [.lit (.bool false)], args := [d] }
  | _ => none }
def FnExactQueueOkWrongFalsely : Prop := fnExactQueueOkRow.holds Try.pinned (OpenSpec.ofChange fnExactQueueOkWrong)

/-- 'laws.FnExactLegal': WHATEVER THE INPUT: true; the input reads as it did. -/
def fnExactLegalSpec : ChangeSpec := { name := "fnExactLegal", fn := fun _ => fun
  | [d1, d2] => { results := [.lit (.bool true)], args := [d1, d2] }
  | _ => none }
def fnExactLegalRow : OpenClaim := { program := "ytjbaaefkijgfkaa", sum := "635ede97fbc4bda5bb4c6357c91e1b64ac49a835d0c43d8139f01da4db1b46d0", func := "loop.example/g00761/laws.FnExactLegal", spec := "fnExactLegal", unfollowed := true, recurses := true, apart := false }
def FnExactLegalSaid : Prop := fnExactLegalRow.holds Try.pinned (OpenSpec.ofChange fnExactLegalSpec)

/-- ITS FALSE NEIGHBOUR: 'it returns false'. Refute it at one input. -/
def fnExactLegalWrong : ChangeSpec := { name := "fnExactLegal", fn := fun _ => fun
  | [d1, d2] => { results := [.lit (.bool false)], args := [d1, d2] }
  | _ => none }
def FnExactLegalWrongFalsely : Prop := fnExactLegalRow.holds Try.pinned (OpenSpec.ofChange fnExactLegalWrong)

/-- 'laws.FnExactLandAt': WHATEVER THE INPUT: true; the input reads as it did. -/
def fnExactLandAtSpec : ChangeSpec := { name := "fnExactLandAt", fn := fun _ => fun
  | [d1, d2, d3] => { results := [.lit (.bool true)], args := [d1, d2, d3] }
  | _ => none }
def fnExactLandAtRow : OpenClaim := { program := "ytjbaaefkijgfkaa", sum := "635ede97fbc4bda5bb4c6357c91e1b64ac49a835d0c43d8139f01da4db1b46d0", func := "loop.example/g00761/laws.FnExactLandAt", spec := "fnExactLandAt", unfollowed := true, recurses := true, apart := false }
def FnExactLandAtSaid : Prop := fnExactLandAtRow.holds Try.pinned (OpenSpec.ofChange fnExactLandAtSpec)

/-- ITS FALSE NEIGHBOUR: 'it returns false'. Refute it at one input. -/
def fnExactLandAtWrong : ChangeSpec := { name := "fnExactLandAt", fn := fun _ => fun
  | [d1, d2, d3] => { results := [.lit (.bool false)], args := [d1, d2, d3] }
  | _ => none }
def FnExactLandAtWrongFalsely : Prop := fnExactLandAtRow.holds Try.pinned (OpenSpec.ofChange fnExactLandAtWrong)

/-- 'laws.FnExactWays': WHATEVER THE INPUT: true; the input reads as it did. -/
def fnExactWaysSpec : ChangeSpec := { name := "fnExactWays", fn := fun _ => fun
  | [d] => { results := [.lit (.bool true)], args := [d] }
  | _ => none }
def fnExactWaysRow : OpenClaim := { program := "ytjbaaefkijgfkaa", sum := "635ede97fbc4bda5bb4c6357c91e1b64ac49a835d0c43d8139f01da4db1b46d0", func := "loop.example/g00761/laws.FnExactWays", spec := "fnExactWays", unfollowed := true, recurses := true, apart := false }
def FnExactWaysSaid : Prop := fnExactWaysRow.holds Try.pinned (OpenSpec.ofChange fnExactWaysSpec)

/-- ITS FALSE NEIGHBOUR: 'it returns false'. Refute it at one input. -/
def fnExactWaysWrong : ChangeSpec := { name := "fnExactWays", fn := fun _ => fun
  | [d] => { results := [.lit (.bool false)], args := [d] }
  | _ => none }
def FnExactWaysWrongFalsely : Prop := fnExactWaysRow.holds Try.pinned (OpenSpec.ofChange fnExactWaysWrong)

/-- 'laws.FnExactLastOf': WHATEVER THE INPUT: true; the input reads as it did. -/
def fnExactLastOfSpec : ChangeSpec := { name := "fnExactLastOf", fn := fun _ => fun
  | [d1, d2, d3] => { results := [.lit (.bool true)], args := [d1, d2, d3] }
  | _ => none }
def fnExactLastOfRow : OpenClaim := { program := "ytjbaaefkijgfkaa", sum := "635ede97fbc4bda5bb4c6357c91e1b64ac49a835d0c43d8139f01da4db1b46d0", func := "loop.example/g00761/laws.FnExactLastOf", spec := "fnExactLastOf", unfollowed := true, recurses := true, apart := false }
def FnExactLastOfSaid : Prop := fnExactLastOfRow.holds Try.pinned (OpenSpec.ofChange fnExactLastOfSpec)

/-- ITS FALSE NEIGHBOUR: 'it returns false'. Refute it at one input. -/
def fnExactLastOfWrong : ChangeSpec := { name := "fnExactLastOf", fn := fun _ => fun
  | [d1, d2, d3] => { results := [.lit (.bool false)], args := [d1, d2, d3] }
  | _ => none }
def FnExactLastOfWrongFalsely : Prop := fnExactLastOfRow.holds Try.pinned (OpenSpec.ofChange fnExactLastOfWrong)

/-- 'laws.FnBarrier': WHATEVER THE INPUT: true; the input reads as it did. -/
def fnBarrierSpec : ChangeSpec := { name := "fnBarrier", fn := fun _ => fun
  | [d] => { results := [.lit (.bool true)], args := [d] }
  | _ => none }
def fnBarrierRow : OpenClaim := { program := "ytjbaaefkijgfkaa", sum := "635ede97fbc4bda5bb4c6357c91e1b64ac49a835d0c43d8139f01da4db1b46d0", func := "loop.example/g00761/laws.FnBarrier", spec := "fnBarrier", unfollowed := true, recurses := true, apart := false }
def FnBarrierSaid : Prop := fnBarrierRow.holds Try.pinned (OpenSpec.ofChange fnBarrierSpec)

/-- ITS FALSE NEIGHBOUR: 'it returns false'. Refute it at one input. -/
def fnBarrierWrong : ChangeSpec := { name := "fnBarrier", fn := fun _ => fun
  | [d] => { results := [.lit (.bool false)], args := [d] }
  | _ => none }
def FnBarrierWrongFalsely : Prop := fnBarrierRow.holds Try.pinned (OpenSpec.ofChange fnBarrierWrong)

/- THE SECOND FORM. 'bulk': how many values and letters a reading holds, each counted each time it is reached (what is shared counts as often as it is met; a slice's spare places count too). A statement '..UptoSaid' is the law's where the arguments, and the package variables that the reading takes, are together of bulk at most 1048576: NARROWER than '..Said'. Prove '..Said' where nothing that the law and all that it calls make is longer than what came in: it says more and counts as full. Else prove '..UptoSaid'. A law counts once. -/
mutual
def uptoBulk {H : Type} : DataW H → Nat
  | .lit (.string bytes) => bytes.length + 1
  | .lit _ => 1
  | .nil => 1
  | .ptr d => uptoBulk d + 1
  | .slice elems spare => uptoBulkAll elems + uptoBulkAll spare + 1
  | .agg parts => uptoBulkAll parts + 1
  | .iface _ d => uptoBulk d + 1
  | .map entries => uptoBulkEntries entries + 1
  | .held _ => 1
def uptoBulkAll {H : Type} : List (DataW H) → Nat
  | [] => 0
  | d :: r => uptoBulk d + uptoBulkAll r
def uptoBulkEntries {H : Type} : List (Lit × DataW H) → Nat
  | [] => 0
  | x :: r => uptoBulkEntry x + uptoBulkEntries r
def uptoBulkEntry {H : Type} : Lit × DataW H → Nat
  | (.string bytes, d) => bytes.length + uptoBulk d + 1
  | (_, d) => uptoBulk d + 1
 end
def uptoSmall : (H : Type) → List (DataW H) → Bool := fun _ ds => decide (uptoBulkAll ds ≤ 1048576)
def OpenSpec.upto (s : _root_.Go.ChangeSpec) : _root_.Go.OpenSpec := { _root_.Go.OpenSpec.ofChange s with cond := some uptoSmall }

/-- 'laws.FnExactQueueOk', WHERE WHAT IT READS IS OF BULK AT MOST 1048576: true; the input reads as it did. -/
def fnExactQueueOkUptoRow : OpenClaim := { program := "ytjbaaefkijgfkaa", sum := "635ede97fbc4bda5bb4c6357c91e1b64ac49a835d0c43d8139f01da4db1b46d0", func := "loop.example/g00761/laws.FnExactQueueOk", spec := "fnExactQueueOk", unfollowed := true, recurses := true, apart := false, narrowed := true }
def FnExactQueueOkUptoSaid : Prop := fnExactQueueOkUptoRow.holds Try.pinned (OpenSpec.upto fnExactQueueOkSpec)

/-- 'laws.FnExactLegal', WHERE WHAT IT READS IS OF BULK AT MOST 1048576: true; the input reads as it did. -/
def fnExactLegalUptoRow : OpenClaim := { program := "ytjbaaefkijgfkaa", sum := "635ede97fbc4bda5bb4c6357c91e1b64ac49a835d0c43d8139f01da4db1b46d0", func := "loop.example/g00761/laws.FnExactLegal", spec := "fnExactLegal", unfollowed := true, recurses := true, apart := false, narrowed := true }
def FnExactLegalUptoSaid : Prop := fnExactLegalUptoRow.holds Try.pinned (OpenSpec.upto fnExactLegalSpec)

/-- 'laws.FnExactLandAt', WHERE WHAT IT READS IS OF BULK AT MOST 1048576: true; the input reads as it did. -/
def fnExactLandAtUptoRow : OpenClaim := { program := "ytjbaaefkijgfkaa", sum := "635ede97fbc4bda5bb4c6357c91e1b64ac49a835d0c43d8139f01da4db1b46d0", func := "loop.example/g00761/laws.FnExactLandAt", spec := "fnExactLandAt", unfollowed := true, recurses := true, apart := false, narrowed := true }
def FnExactLandAtUptoSaid : Prop := fnExactLandAtUptoRow.holds Try.pinned (OpenSpec.upto fnExactLandAtSpec)

/-- 'laws.FnExactWays', WHERE WHAT IT READS IS OF BULK AT MOST 1048576: true; the input reads as it did. -/
def fnExactWaysUptoRow : OpenClaim := { program := "ytjbaaefkijgfkaa", sum := "635ede97fbc4bda5bb4c6357c91e1b64ac49a835d0c43d8139f01da4db1b46d0", func := "loop.example/g00761/laws.FnExactWays", spec := "fnExactWays", unfollowed := true, recurses := true, apart := false, narrowed := true }
def FnExactWaysUptoSaid : Prop := fnExactWaysUptoRow.holds Try.pinned (OpenSpec.upto fnExactWaysSpec)

/-- 'laws.FnExactLastOf', WHERE WHAT IT READS IS OF BULK AT MOST 1048576: true; the input reads as it did. -/
def fnExactLastOfUptoRow : OpenClaim := { program := "ytjbaaefkijgfkaa", sum := "635ede97fbc4bda5bb4c6357c91e1b64ac49a835d0c43d8139f01da4db1b46d0", func := "loop.example/g00761/laws.FnExactLastOf", spec := "fnExactLastOf", unfollowed := true, recurses := true, apart := false, narrowed := true }
def FnExactLastOfUptoSaid : Prop := fnExactLastOfUptoRow.holds Try.pinned (OpenSpec.upto fnExactLastOfSpec)

/-- 'laws.FnBarrier', WHERE WHAT IT READS IS OF BULK AT MOST 1048576: true; the input reads as it did. -/
def fnBarrierUptoRow : OpenClaim := { program := "ytjbaaefkijgfkaa", sum := "635ede97fbc4bda5bb4c6357c91e1b64ac49a835d0c43d8139f01da4db1b46d0", func := "loop.example/g00761/laws.FnBarrier", spec := "fnBarrier", unfollowed := true, recurses := true, apart := false, narrowed := true }
def FnBarrierUptoSaid : Prop := fnBarrierUptoRow.holds Try.pinned (OpenSpec.upto fnBarrierSpec)

end Rows
end Go.Proofs.Ytjbaaefkijgfkaa
