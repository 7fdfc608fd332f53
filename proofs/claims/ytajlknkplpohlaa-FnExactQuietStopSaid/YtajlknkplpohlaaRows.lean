/-
  No cell of these rows narrows 'for every input' (looked for: loops, veiled, ifaces, maps, wideKeys, modest, calm, conditions, laid).
  DERIVED. THE GIVEN ROWS OF THIS SEAT. 9 by the template 'for every input the law returns true; each argument reads behind the call as it read before'; 0 by the template 'total and deterministic' (their statements: YtajlknkplpohlaaTotals.lean).
  GIVEN WITH THE SEED: the statements are not yours to turn. If you find one false, say at which input.
  Laid BY PROGRAM, IN A SANDBOX (cutbox-rows.mjs): the forced cells as the released guide's own fill.sh prints them over the translation 0900a29082ea8577… (all of the seat's roots in one cut). By AI agents, Wed Nov 11 2026. No macro, syntax, notation, axiom, sorry.
-/
import Derived.Test.YtajlknkplpohlaaChecked
import GoSem.Claim
import GoSem.ClaimJoined
import GoSem.ClaimMapViews
import Derived.JoinedTies
import Derived.KernelRfl
namespace Go.Proofs.Ytajlknkplpohlaa
/- THE CELL 'sum', in the pinned program and in every row, IS THE sha256 OF THE DUMP (.gsa) THAT YtajlknkplpohlaaProg.lean LOADS. Nothing in Lean hashes anything: it is a label: what it is worth is what the hold of that sum in a sandbox is worth. -/
noncomputable def Try.pinned : Pinned := { name := "ytajlknkplpohlaa", sum := "0900a29082ea8577f09ee8464aecd9a0161a7a458903dcdafffb826b67dde55a", checked := Try.checked }
namespace Rows
def none {H : Type} : Left H := { results := [], args := [] }

/-- 'laws.FnExactQuietNew': WHATEVER THE INPUT: true; the input reads as it did. -/
def fnExactQuietNewSpec : ChangeSpec := { name := "fnExactQuietNew", fn := fun _ => fun
  | [d] => { results := [.lit (.bool true)], args := [d] }
  | _ => none }
def fnExactQuietNewRow : OpenClaim := { program := "ytajlknkplpohlaa", sum := "0900a29082ea8577f09ee8464aecd9a0161a7a458903dcdafffb826b67dde55a", func := "loop.example/g00761/laws.FnExactQuietNew", spec := "fnExactQuietNew", apart := false }
def FnExactQuietNewSaid : Prop := fnExactQuietNewRow.holds Try.pinned (OpenSpec.ofChange fnExactQuietNewSpec)

/-- ITS FALSE NEIGHBOUR: 'it returns false'. Refute it at one input. -/
def fnExactQuietNewWrong : ChangeSpec := { name := "fnExactQuietNew", fn := fun _ => fun
  | [d] => { results := [.lit (.bool false)], args := [d] }
  | _ => none }
def FnExactQuietNewWrongFalsely : Prop := fnExactQuietNewRow.holds Try.pinned (OpenSpec.ofChange fnExactQuietNewWrong)

/-- 'laws.FnExactQuietOk': WHATEVER THE INPUT: true; the input reads as it did. -/
def fnExactQuietOkSpec : ChangeSpec := { name := "fnExactQuietOk", fn := fun _ => fun
  | [d] => { results := [.lit (.bool true)], args := [d] }
  | _ => none }
def fnExactQuietOkRow : OpenClaim := { program := "ytajlknkplpohlaa", sum := "0900a29082ea8577f09ee8464aecd9a0161a7a458903dcdafffb826b67dde55a", func := "loop.example/g00761/laws.FnExactQuietOk", spec := "fnExactQuietOk", unfollowed := true, recurses := true, apart := false }
def FnExactQuietOkSaid : Prop := fnExactQuietOkRow.holds Try.pinned (OpenSpec.ofChange fnExactQuietOkSpec)

/-- ITS FALSE NEIGHBOUR: 'it returns false'. Refute it at one input. -/
def fnExactQuietOkWrong : ChangeSpec := { name := "fnExactQuietOk", fn := fun _ => fun
  | [d] => { results := [.lit (.bool false)], args := [d] }
  | _ => none }
def FnExactQuietOkWrongFalsely : Prop := fnExactQuietOkRow.holds Try.pinned (OpenSpec.ofChange fnExactQuietOkWrong)

/-- 'laws.FnQuiet': WHATEVER THE INPUT: true; the input reads as it did. -/
def fnQuietSpec : ChangeSpec := { name := "fnQuiet", fn := fun _ => fun
  | [d] => { results := [.lit (.bool true)], args := [d] }
  | _ => none }
def fnQuietRow : OpenClaim := { program := "ytajlknkplpohlaa", sum := "0900a29082ea8577f09ee8464aecd9a0161a7a458903dcdafffb826b67dde55a", func := "loop.example/g00761/laws.FnQuiet", spec := "fnQuiet", unfollowed := true, recurses := true, apart := false }
def FnQuietSaid : Prop := fnQuietRow.holds Try.pinned (OpenSpec.ofChange fnQuietSpec)

/-- ITS FALSE NEIGHBOUR: 'it returns false'. Refute it at one input. -/
def fnQuietWrong : ChangeSpec := { name := "fnQuiet", fn := fun _ => fun
  | [d] => { results := [.lit (.bool false)], args := [d] }
  | _ => none }
def FnQuietWrongFalsely : Prop := fnQuietRow.holds Try.pinned (OpenSpec.ofChange fnQuietWrong)

/-- 'laws.FnExactQuietBegin': WHATEVER THE INPUT: true; the input reads as it did. -/
def fnExactQuietBeginSpec : ChangeSpec := { name := "fnExactQuietBegin", fn := fun _ => fun
  | [d1, d2] => { results := [.lit (.bool true)], args := [d1, d2] }
  | _ => none }
def fnExactQuietBeginRow : OpenClaim := { program := "ytajlknkplpohlaa", sum := "0900a29082ea8577f09ee8464aecd9a0161a7a458903dcdafffb826b67dde55a", func := "loop.example/g00761/laws.FnExactQuietBegin", spec := "fnExactQuietBegin", unfollowed := true, recurses := true, apart := false }
def FnExactQuietBeginSaid : Prop := fnExactQuietBeginRow.holds Try.pinned (OpenSpec.ofChange fnExactQuietBeginSpec)

/-- ITS FALSE NEIGHBOUR: 'it returns false'. Refute it at one input. -/
def fnExactQuietBeginWrong : ChangeSpec := { name := "fnExactQuietBegin", fn := fun _ => fun
  | [d1, d2] => { results := [.lit (.bool false)], args := [d1, d2] }
  | _ => none }
def FnExactQuietBeginWrongFalsely : Prop := fnExactQuietBeginRow.holds Try.pinned (OpenSpec.ofChange fnExactQuietBeginWrong)

/-- 'laws.FnExactQuietAck': WHATEVER THE INPUT: true; the input reads as it did. -/
def fnExactQuietAckSpec : ChangeSpec := { name := "fnExactQuietAck", fn := fun _ => fun
  | [d1, d2] => { results := [.lit (.bool true)], args := [d1, d2] }
  | _ => none }
def fnExactQuietAckRow : OpenClaim := { program := "ytajlknkplpohlaa", sum := "0900a29082ea8577f09ee8464aecd9a0161a7a458903dcdafffb826b67dde55a", func := "loop.example/g00761/laws.FnExactQuietAck", spec := "fnExactQuietAck", unfollowed := true, recurses := true, apart := false }
def FnExactQuietAckSaid : Prop := fnExactQuietAckRow.holds Try.pinned (OpenSpec.ofChange fnExactQuietAckSpec)

/-- ITS FALSE NEIGHBOUR: 'it returns false'. Refute it at one input. -/
def fnExactQuietAckWrong : ChangeSpec := { name := "fnExactQuietAck", fn := fun _ => fun
  | [d1, d2] => { results := [.lit (.bool false)], args := [d1, d2] }
  | _ => none }
def FnExactQuietAckWrongFalsely : Prop := fnExactQuietAckRow.holds Try.pinned (OpenSpec.ofChange fnExactQuietAckWrong)

/-- 'laws.FnExactQuietEnd': WHATEVER THE INPUT: true; the input reads as it did. -/
def fnExactQuietEndSpec : ChangeSpec := { name := "fnExactQuietEnd", fn := fun _ => fun
  | [d1, d2] => { results := [.lit (.bool true)], args := [d1, d2] }
  | _ => none }
def fnExactQuietEndRow : OpenClaim := { program := "ytajlknkplpohlaa", sum := "0900a29082ea8577f09ee8464aecd9a0161a7a458903dcdafffb826b67dde55a", func := "loop.example/g00761/laws.FnExactQuietEnd", spec := "fnExactQuietEnd", unfollowed := true, recurses := true, apart := false }
def FnExactQuietEndSaid : Prop := fnExactQuietEndRow.holds Try.pinned (OpenSpec.ofChange fnExactQuietEndSpec)

/-- ITS FALSE NEIGHBOUR: 'it returns false'. Refute it at one input. -/
def fnExactQuietEndWrong : ChangeSpec := { name := "fnExactQuietEnd", fn := fun _ => fun
  | [d1, d2] => { results := [.lit (.bool false)], args := [d1, d2] }
  | _ => none }
def FnExactQuietEndWrongFalsely : Prop := fnExactQuietEndRow.holds Try.pinned (OpenSpec.ofChange fnExactQuietEndWrong)

/-- 'laws.FnExactQuietStop': WHATEVER THE INPUT: true; the input reads as it did. -/
def fnExactQuietStopSpec : ChangeSpec := { name := "fnExactQuietStop", fn := fun _ => fun
  | [d] => { results := [.lit (.bool true)], args := [d] }
  | _ => none }
def fnExactQuietStopRow : OpenClaim := { program := "ytajlknkplpohlaa", sum := "0900a29082ea8577f09ee8464aecd9a0161a7a458903dcdafffb826b67dde55a", func := "loop.example/g00761/laws.FnExactQuietStop", spec := "fnExactQuietStop", unfollowed := true, recurses := true, apart := false }
def FnExactQuietStopSaid : Prop := fnExactQuietStopRow.holds Try.pinned (OpenSpec.ofChange fnExactQuietStopSpec)

/-- ITS FALSE NEIGHBOUR: 'it returns false'. Refute it at one input. -/
def fnExactQuietStopWrong : ChangeSpec := { name := "fnExactQuietStop", fn := fun _ => fun
  | [d] => { results := [.lit (.bool false)], args := [d] }
  | _ => none }
def FnExactQuietStopWrongFalsely : Prop := fnExactQuietStopRow.holds Try.pinned (OpenSpec.ofChange fnExactQuietStopWrong)

/-- 'laws.FnExactQuietAsk': WHATEVER THE INPUT: true; the input reads as it did. -/
def fnExactQuietAskSpec : ChangeSpec := { name := "fnExactQuietAsk", fn := fun _ => fun
  | [d] => { results := [.lit (.bool true)], args := [d] }
  | _ => none }
def fnExactQuietAskRow : OpenClaim := { program := "ytajlknkplpohlaa", sum := "0900a29082ea8577f09ee8464aecd9a0161a7a458903dcdafffb826b67dde55a", func := "loop.example/g00761/laws.FnExactQuietAsk", spec := "fnExactQuietAsk", unfollowed := true, recurses := true, apart := false }
def FnExactQuietAskSaid : Prop := fnExactQuietAskRow.holds Try.pinned (OpenSpec.ofChange fnExactQuietAskSpec)

/-- ITS FALSE NEIGHBOUR: 'it returns false'. Refute it at one input. -/
def fnExactQuietAskWrong : ChangeSpec := { name := "fnExactQuietAsk", fn := fun _ => fun
  | [d] => { results := [.lit (.bool false)], args := [d] }
  | _ => none }
def FnExactQuietAskWrongFalsely : Prop := fnExactQuietAskRow.holds Try.pinned (OpenSpec.ofChange fnExactQuietAskWrong)

/-- 'laws.FnExactQuietSnap': WHATEVER THE INPUT: true; the input reads as it did. -/
def fnExactQuietSnapSpec : ChangeSpec := { name := "fnExactQuietSnap", fn := fun _ => fun
  | [d] => { results := [.lit (.bool true)], args := [d] }
  | _ => none }
def fnExactQuietSnapRow : OpenClaim := { program := "ytajlknkplpohlaa", sum := "0900a29082ea8577f09ee8464aecd9a0161a7a458903dcdafffb826b67dde55a", func := "loop.example/g00761/laws.FnExactQuietSnap", spec := "fnExactQuietSnap", unfollowed := true, recurses := true, apart := false }
def FnExactQuietSnapSaid : Prop := fnExactQuietSnapRow.holds Try.pinned (OpenSpec.ofChange fnExactQuietSnapSpec)

/-- ITS FALSE NEIGHBOUR: 'it returns false'. Refute it at one input. -/
def fnExactQuietSnapWrong : ChangeSpec := { name := "fnExactQuietSnap", fn := fun _ => fun
  | [d] => { results := [.lit (.bool false)], args := [d] }
  | _ => none }
def FnExactQuietSnapWrongFalsely : Prop := fnExactQuietSnapRow.holds Try.pinned (OpenSpec.ofChange fnExactQuietSnapWrong)

/- THE SECOND FORM. 'bulk': how many values and letters a reading holds, each counted each time it is reached (what is shared counts as often as it is met; a slice's spare places count too). A statement '..UptoSaid' is the law's where the arguments, and the package variables that the reading takes, are together of bulk at most 1048576: NARROWER than '..Said'. Prove '..Said' where nothing that the law and all that it calls make is longer than what came in: it says more and counts as full. Else prove '..UptoSaid'. A law counts once. -/
mutual
def uptoBulk {H : Type} : DataW H → Nat
  | .lit (.string bytes) => bytes.length + 1
  | .lit _ => 1
  | .nil => 1
  | .ptr d => uptoBulk d + 1
  | .slice elems spare => uptoBulkAll elems + uptoBulkAll spare + 1
  | .agg parts => uptoBulkAll parts + 1
  | .iface _ d => uptoBulk d + 1
  | .map entries => uptoBulkEntries entries + 1
  | .held _ => 1
def uptoBulkAll {H : Type} : List (DataW H) → Nat
  | [] => 0
  | d :: r => uptoBulk d + uptoBulkAll r
def uptoBulkEntries {H : Type} : List (Lit × DataW H) → Nat
  | [] => 0
  | x :: r => uptoBulkEntry x + uptoBulkEntries r
def uptoBulkEntry {H : Type} : Lit × DataW H → Nat
  | (.string bytes, d) => bytes.length + uptoBulk d + 1
  | (_, d) => uptoBulk d + 1
 end
def uptoSmall : (H : Type) → List (DataW H) → Bool := fun _ ds => decide (uptoBulkAll ds ≤ 1048576)
def OpenSpec.upto (s : _root_.Go.ChangeSpec) : _root_.Go.OpenSpec := { _root_.Go.OpenSpec.ofChange s with cond := some uptoSmall }

/-- 'laws.FnExactQuietNew', WHERE WHAT IT READS IS OF BULK AT MOST 1048576: true; the input reads as it did. -/
def fnExactQuietNewUptoRow : OpenClaim := { program := "ytajlknkplpohlaa", sum := "0900a29082ea8577f09ee8464aecd9a0161a7a458903dcdafffb826b67dde55a", func := "loop.example/g00761/laws.FnExactQuietNew", spec := "fnExactQuietNew", apart := false, narrowed := true }
def FnExactQuietNewUptoSaid : Prop := fnExactQuietNewUptoRow.holds Try.pinned (OpenSpec.upto fnExactQuietNewSpec)

/-- 'laws.FnExactQuietOk', WHERE WHAT IT READS IS OF BULK AT MOST 1048576: true; the input reads as it did. -/
def fnExactQuietOkUptoRow : OpenClaim := { program := "ytajlknkplpohlaa", sum := "0900a29082ea8577f09ee8464aecd9a0161a7a458903dcdafffb826b67dde55a", func := "loop.example/g00761/laws.FnExactQuietOk", spec := "fnExactQuietOk", unfollowed := true, recurses := true, apart := false, narrowed := true }
def FnExactQuietOkUptoSaid : Prop := fnExactQuietOkUptoRow.holds Try.pinned (OpenSpec.upto fnExactQuietOkSpec)

/-- 'laws.FnQuiet', WHERE WHAT IT READS IS OF BULK AT MOST 1048576: true; the input reads as it did. -/
def fnQuietUptoRow : OpenClaim := { program := "ytajlknkplpohlaa", sum := "0900a29082ea8577f09ee8464aecd9a0161a7a458903dcdafffb826b67dde55a", func := "loop.example/g00761/laws.FnQuiet", spec := "fnQuiet", unfollowed := true, recurses := true, apart := false, narrowed := true }
def FnQuietUptoSaid : Prop := fnQuietUptoRow.holds Try.pinned (OpenSpec.upto fnQuietSpec)

/-- 'laws.FnExactQuietBegin', WHERE WHAT IT READS IS OF BULK AT MOST 1048576: true; the input reads as it did. -/
def fnExactQuietBeginUptoRow : OpenClaim := { program := "ytajlknkplpohlaa", sum := "0900a29082ea8577f09ee8464aecd9a0161a7a458903dcdafffb826b67dde55a", func := "loop.example/g00761/laws.FnExactQuietBegin", spec := "fnExactQuietBegin", unfollowed := true, recurses := true, apart := false, narrowed := true }
def FnExactQuietBeginUptoSaid : Prop := fnExactQuietBeginUptoRow.holds Try.pinned (OpenSpec.upto fnExactQuietBeginSpec)

/-- 'laws.FnExactQuietAck', WHERE WHAT IT READS IS OF BULK AT MOST 1048576: true; the input reads as it did. -/
def fnExactQuietAckUptoRow : OpenClaim := { program := "ytajlknkplpohlaa", sum := "0900a29082ea8577f09ee8464aecd9a0161a7a458903dcdafffb826b67dde55a", func := "loop.example/g00761/laws.FnExactQuietAck", spec := "fnExactQuietAck", unfollowed := true, recurses := true, apart := false, narrowed := true }
def FnExactQuietAckUptoSaid : Prop := fnExactQuietAckUptoRow.holds Try.pinned (OpenSpec.upto fnExactQuietAckSpec)

/-- 'laws.FnExactQuietEnd', WHERE WHAT IT READS IS OF BULK AT MOST 1048576: true; the input reads as it did. -/
def fnExactQuietEndUptoRow : OpenClaim := { program := "ytajlknkplpohlaa", sum := "0900a29082ea8577f09ee8464aecd9a0161a7a458903dcdafffb826b67dde55a", func := "loop.example/g00761/laws.FnExactQuietEnd", spec := "fnExactQuietEnd", unfollowed := true, recurses := true, apart := false, narrowed := true }
def FnExactQuietEndUptoSaid : Prop := fnExactQuietEndUptoRow.holds Try.pinned (OpenSpec.upto fnExactQuietEndSpec)

/-- 'laws.FnExactQuietStop', WHERE WHAT IT READS IS OF BULK AT MOST 1048576: true; the input reads as it did. -/
def fnExactQuietStopUptoRow : OpenClaim := { program := "ytajlknkplpohlaa", sum := "0900a29082ea8577f09ee8464aecd9a0161a7a458903dcdafffb826b67dde55a", func := "loop.example/g00761/laws.FnExactQuietStop", spec := "fnExactQuietStop", unfollowed := true, recurses := true, apart := false, narrowed := true }
def FnExactQuietStopUptoSaid : Prop := fnExactQuietStopUptoRow.holds Try.pinned (OpenSpec.upto fnExactQuietStopSpec)

/-- 'laws.FnExactQuietAsk', WHERE WHAT IT READS IS OF BULK AT MOST 1048576: true; the input reads as it did. -/
def fnExactQuietAskUptoRow : OpenClaim := { program := "ytajlknkplpohlaa", sum := "0900a29082ea8577f09ee8464aecd9a0161a7a458903dcdafffb826b67dde55a", func := "loop.example/g00761/laws.FnExactQuietAsk", spec := "fnExactQuietAsk", unfollowed := true, recurses := true, apart := false, narrowed := true }
def FnExactQuietAskUptoSaid : Prop := fnExactQuietAskUptoRow.holds Try.pinned (OpenSpec.upto fnExactQuietAskSpec)

/-- 'laws.FnExactQuietSnap', WHERE WHAT IT READS IS OF BULK AT MOST 1048576: true; the input reads as it did. -/
def fnExactQuietSnapUptoRow : OpenClaim := { program := "ytajlknkplpohlaa", sum := "0900a29082ea8577f09ee8464aecd9a0161a7a458903dcdafffb826b67dde55a", func := "loop.example/g00761/laws.FnExactQuietSnap", spec := "fnExactQuietSnap", unfollowed := true, recurses := true, apart := false, narrowed := true }
def FnExactQuietSnapUptoSaid : Prop := fnExactQuietSnapUptoRow.holds Try.pinned (OpenSpec.upto fnExactQuietSnapSpec)

end Rows
end Go.Proofs.Ytajlknkplpohlaa
