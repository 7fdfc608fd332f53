/-
  No cell of these rows narrows 'for every input' (looked for: loops, veiled, ifaces, maps, wideKeys, modest, calm, conditions, laid).
  DERIVED. THE GIVEN ROWS OF THIS SEAT. 3 by the template 'for every input the law returns true; each argument reads behind the call as it read before'; 0 by the template 'total and deterministic' (their statements: YtoejimenfcincaaTotals.lean).
  GIVEN WITH THE SEED: the statements are not yours to turn. If you find one false, say at which input.
  Laid BY PROGRAM, IN A SANDBOX (cutbox-rows.mjs): the forced cells as the released guide's own fill.sh prints them over the translation b6cd9edf1253f300… (all of the seat's roots in one cut). By AI agents, Wed Nov 11 2026. No macro, syntax, notation, axiom, sorry.
-/
import Derived.Test.YtoejimenfcincaaChecked
import GoSem.Claim
import GoSem.ClaimJoined
import GoSem.ClaimMapViews
import Derived.JoinedTies
import Derived.KernelRfl
namespace Go.Proofs.Ytoejimenfcincaa
/- THE CELL 'sum', in the pinned program and in every row, IS THE sha256 OF THE DUMP (.gsa) THAT YtoejimenfcincaaProg.lean LOADS. Nothing in Lean hashes anything: it is a label: what it is worth is what the hold of that sum in a sandbox is worth. -/
noncomputable def Try.pinned : Pinned := { name := "ytoejimenfcincaa", sum := "b6cd9edf1253f300b41db10f9da871dc07175d11b437e38b907d639d1c91874f", checked := Try.checked }
namespace Rows
def none {H : Type} : Left H := { results := [], args := [] }

/-- 'laws.FnExactConfGet': WHATEVER THE INPUT: true; the input reads as it did. -/
def fnExactConfGetSpec : ChangeSpec := { name := "fnExactConfGet", fn := fun _ => fun
  | [d1, d2, d3] => { results := [.lit (.bool true)], args := [d1, d2, d3] }
  | _ => none }
def fnExactConfGetRow : OpenClaim := { program := "ytoejimenfcincaa", sum := "b6cd9edf1253f300b41db10f9da871dc07175d11b437e38b907d639d1c91874f", func := "loop.example/g00761/laws.FnExactConfGet", spec := "fnExactConfGet", apart := false }
def FnExactConfGetSaid : Prop := fnExactConfGetRow.holds Try.pinned (OpenSpec.ofChange fnExactConfGetSpec)

/-- ITS FALSE NEIGHBOUR: 'it returns false'. Refute it at one input. -/
def fnExactConfGetWrong : ChangeSpec := { name := "fnExactConfGet", fn := fun _ => fun
  | [d1, d2, d3] => { results := [.lit (.bool false)], args := [d1, d2, d3] }
  | _ => none }
def FnExactConfGetWrongFalsely : Prop := fnExactConfGetRow.holds Try.pinned (OpenSpec.ofChange fnExactConfGetWrong)

/-- 'laws.FnExactShowConf': WHATEVER THE INPUT: true; the input reads as it did. -/
def fnExactShowConfSpec : ChangeSpec := { name := "fnExactShowConf", fn := fun _ => fun
  | [d] => { results := [.lit (.bool true)], args := [d] }
  | _ => none }
def fnExactShowConfRow : OpenClaim := { program := "ytoejimenfcincaa", sum := "b6cd9edf1253f300b41db10f9da871dc07175d11b437e38b907d639d1c91874f", func := "loop.example/g00761/laws.FnExactShowConf", spec := "fnExactShowConf", recurses := true, apart := false }
def FnExactShowConfSaid : Prop := fnExactShowConfRow.holds Try.pinned (OpenSpec.ofChange fnExactShowConfSpec)

/-- ITS FALSE NEIGHBOUR: 'it returns false'. Refute it at one input. -/
def fnExactShowConfWrong : ChangeSpec := { name := "fnExactShowConf", fn := fun _ => fun
  | [d] => { results := [.lit (.bool false)], args := [d] }
  | _ => none }
def FnExactShowConfWrongFalsely : Prop := fnExactShowConfRow.holds Try.pinned (OpenSpec.ofChange fnExactShowConfWrong)

/-- 'laws.FnExactConfOver': WHATEVER THE INPUT: true; the input reads as it did. -/
def fnExactConfOverSpec : ChangeSpec := { name := "fnExactConfOver", fn := fun _ => fun
  | [d1, d2] => { results := [.lit (.bool true)], args := [d1, d2] }
  | _ => none }
def fnExactConfOverRow : OpenClaim := { program := "ytoejimenfcincaa", sum := "b6cd9edf1253f300b41db10f9da871dc07175d11b437e38b907d639d1c91874f", func := "loop.example/g00761/laws.FnExactConfOver", spec := "fnExactConfOver", inPlace := ["internal/bytealg.abigen_runtime_cmpstring", "slices.overlaps[loop.example/g00761/impl.Setting]"], unfollowed := true, recurses := true, apart := false }
def FnExactConfOverSaid : Prop := fnExactConfOverRow.holds Try.pinned (OpenSpec.ofChange fnExactConfOverSpec)

/-- ITS FALSE NEIGHBOUR: 'it returns false'. Refute it at one input. -/
def fnExactConfOverWrong : ChangeSpec := { name := "fnExactConfOver", fn := fun _ => fun
  | [d1, d2] => { results := [.lit (.bool false)], args := [d1, d2] }
  | _ => none }
def FnExactConfOverWrongFalsely : Prop := fnExactConfOverRow.holds Try.pinned (OpenSpec.ofChange fnExactConfOverWrong)

/- THE SECOND FORM. 'bulk': how many values and letters a reading holds, each counted each time it is reached (what is shared counts as often as it is met; a slice's spare places count too). A statement '..UptoSaid' is the law's where the arguments, and the package variables that the reading takes, are together of bulk at most 1048576: NARROWER than '..Said'. Prove '..Said' where nothing that the law and all that it calls make is longer than what came in: it says more and counts as full. Else prove '..UptoSaid'. A law counts once. -/
mutual
def uptoBulk {H : Type} : DataW H → Nat
  | .lit (.string bytes) => bytes.length + 1
  | .lit _ => 1
  | .nil => 1
  | .ptr d => uptoBulk d + 1
  | .slice elems spare => uptoBulkAll elems + uptoBulkAll spare + 1
  | .agg parts => uptoBulkAll parts + 1
  | .iface _ d => uptoBulk d + 1
  | .map entries => uptoBulkEntries entries + 1
  | .held _ => 1
def uptoBulkAll {H : Type} : List (DataW H) → Nat
  | [] => 0
  | d :: r => uptoBulk d + uptoBulkAll r
def uptoBulkEntries {H : Type} : List (Lit × DataW H) → Nat
  | [] => 0
  | x :: r => uptoBulkEntry x + uptoBulkEntries r
def uptoBulkEntry {H : Type} : Lit × DataW H → Nat
  | (.string bytes, d) => bytes.length + uptoBulk d + 1
  | (_, d) => uptoBulk d + 1
 end
def uptoSmall : (H : Type) → List (DataW H) → Bool := fun _ ds => decide (uptoBulkAll ds ≤ 1048576)
def OpenSpec.upto (s : _root_.Go.ChangeSpec) : _root_.Go.OpenSpec := { _root_.Go.OpenSpec.ofChange s with cond := some uptoSmall }

/-- 'laws.FnExactConfGet', WHERE WHAT IT READS IS OF BULK AT MOST 1048576: true; the input reads as it did. -/
def fnExactConfGetUptoRow : OpenClaim := { program := "ytoejimenfcincaa", sum := "b6cd9edf1253f300b41db10f9da871dc07175d11b437e38b907d639d1c91874f", func := "loop.example/g00761/laws.FnExactConfGet", spec := "fnExactConfGet", apart := false, narrowed := true }
def FnExactConfGetUptoSaid : Prop := fnExactConfGetUptoRow.holds Try.pinned (OpenSpec.upto fnExactConfGetSpec)

/-- 'laws.FnExactShowConf', WHERE WHAT IT READS IS OF BULK AT MOST 1048576: true; the input reads as it did. -/
def fnExactShowConfUptoRow : OpenClaim := { program := "ytoejimenfcincaa", sum := "b6cd9edf1253f300b41db10f9da871dc07175d11b437e38b907d639d1c91874f", func := "loop.example/g00761/laws.FnExactShowConf", spec := "fnExactShowConf", recurses := true, apart := false, narrowed := true }
def FnExactShowConfUptoSaid : Prop := fnExactShowConfUptoRow.holds Try.pinned (OpenSpec.upto fnExactShowConfSpec)

/-- 'laws.FnExactConfOver', WHERE WHAT IT READS IS OF BULK AT MOST 1048576: true; the input reads as it did. -/
def fnExactConfOverUptoRow : OpenClaim := { program := "ytoejimenfcincaa", sum := "b6cd9edf1253f300b41db10f9da871dc07175d11b437e38b907d639d1c91874f", func := "loop.example/g00761/laws.FnExactConfOver", spec := "fnExactConfOver", inPlace := ["internal/bytealg.abigen_runtime_cmpstring", "slices.overlaps[loop.example/g00761/impl.Setting]"], unfollowed := true, recurses := true, apart := false, narrowed := true }
def FnExactConfOverUptoSaid : Prop := fnExactConfOverUptoRow.holds Try.pinned (OpenSpec.upto fnExactConfOverSpec)

end Rows
end Go.Proofs.Ytoejimenfcincaa
