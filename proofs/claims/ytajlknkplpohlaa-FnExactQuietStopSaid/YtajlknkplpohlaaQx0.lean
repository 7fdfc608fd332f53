-- Printed for this claim by a program of this session (wip/tools/sprint.py), over the kit's print: Lean checks it.
import Derived.Test.YtajlknkplpohlaaProg
import Derived.Below
import Derived.Deep.Draws
import Derived.Deep.AppendLies
import Derived.Maps.AppendAt
import Derived.OwnWalk
import Derived.Laws.BytesArg
import Derived.Laws.MakeOwn
import Derived.Laws.OwnMore
import Derived.Deep.OwnRows
import Derived.Tactics
import Derived.Lib.ConvBytes
import Derived.Laws.Slices
import Derived.WalkKit
import Derived.KernelRfl
import Derived.RowKit3
import Derived.Deep.LoopGhost
import Derived.Deep.QuietTactic
import Derived.BigQuiet
import Derived.WideLaws
import Derived.Deep.DeepCutAuto
import Derived.Deep.CutBlock
import Derived.Deep.RegionHeld3
import Derived.Laws.Rows
import Derived.Lib.AppendStr
import Derived.ArgAppend
import Derived.Laws.IdiomCopy
import Derived.OrdersHeld
import Derived.Laws.BitsLemmas
import Derived.RowKit
import Derived.Shelf.Abstract
import Derived.WalkSpells
import Derived.Test.YtajlknkplpohlaaVWords
import Derived.Test.YtajlknkplpohlaaVLast
import Derived.Test.YtajlknkplpohlaaVTab
import Derived.Test.YtajlknkplpohlaaVFour
import Derived.Test.YtajlknkplpohlaaVQPut
import Derived.Test.YtajlknkplpohlaaVApart
import Derived.Test.YtajlknkplpohlaaVArr
import Derived.Test.YtajlknkplpohlaaVZeros
import Derived.Test.YtajlknkplpohlaaVFoot
import Derived.Test.YtajlknkplpohlaaVKept
import Derived.Test.YtajlknkplpohlaaVShare
import Derived.Test.YtajlknkplpohlaaVN
import Derived.Test.YtajlknkplpohlaaVFootNe
import Derived.Test.YtajlknkplpohlaaVAt
import Derived.Test.YtajlknkplpohlaaVEqStruct
import Derived.Test.YtajlknkplpohlaaVRepsOne
import Derived.Test.YtajlknkplpohlaaVInv
import Derived.Test.YtajlknkplpohlaaVInvWords
import Derived.Test.YtajlknkplpohlaaVGuard
import Derived.Test.YtajlknkplpohlaaVNEv
import Derived.Test.YtajlknkplpohlaaVMore
namespace Go.Proofs.Ytajlknkplpohlaa.Q
open Go.RowKit Go.Proofs.YtajlknkplpohlaaW.PrintWords Go.Proofs.YtajlknkplpohlaaW.PrintLast Go.Proofs.YtajlknkplpohlaaW.PrintMore
attribute [local go_sem] max2_int min2_int max_two min_two max_three min_three max_four min_four   -- for this text's walks alone
set_option linter.unusedVariables false
set_option linter.unusedSimpArgs false



def errW : Option Int → Value
  | none => .nilIface
  | some c => .iface 0 (.int .i64 c)
theorem errW_none : errW none = .nilIface := rfl
theorem errW_some (c : Int) : errW (some c) = .iface 0 (.int .i64 c) := rfl

theorem info3 : (Try.prog.info? 3).map (fun i => (i.zero, i.size, i.bytes)) = some (some (.int .i64 0), 1, 8) := by kernel_rfl
-- the values' own types

end Go.Proofs.Ytajlknkplpohlaa.Q
