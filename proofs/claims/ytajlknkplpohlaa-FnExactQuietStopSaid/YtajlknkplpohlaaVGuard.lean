-- The words of the kit's print that this seat's texts use (trimmed by wip/tools/wtrim.py of this session).
import Derived.Test.YtajlknkplpohlaaVWords
namespace Go.Proofs.YtajlknkplpohlaaW.PrintWords
open Go.RowKit
section
variable {P : Program} {ops : Array Oper} {rest : List Oper} {o : Oper} {a : Act} {Q : Exit → Act → World → Prop} {W : World}
end
end Go.Proofs.YtajlknkplpohlaaW.PrintWords
