-- The words of the kit's print that this seat's texts use (trimmed by wip/tools/wtrim.py of this session).
import Derived.Test.YtajlknkplpohlaaVInv
import Derived.Test.YtajlknkplpohlaaVFootNe
namespace Go.Proofs.YtajlknkplpohlaaW.PrintWords
open Go.RowKit
end Go.Proofs.YtajlknkplpohlaaW.PrintWords
namespace Go.Proofs.YtajlknkplpohlaaW.PrintLast
section
variable {ops : Array Oper} {a : Act} {o og : Oper} {g : Nat} {t : Tmp} {u : Bool}
end
end Go.Proofs.YtajlknkplpohlaaW.PrintLast
