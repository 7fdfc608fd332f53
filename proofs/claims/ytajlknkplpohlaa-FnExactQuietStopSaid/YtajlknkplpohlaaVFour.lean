-- The words of the kit's print that this seat's texts use (trimmed by wip/tools/wtrim.py of this session).
import Derived.Test.YtajlknkplpohlaaVTab
namespace Go.Proofs.YtajlknkplpohlaaW.PrintLast
section
variable {P : Program} {ops : Array Oper} {Q : Exit → Act → World → Prop} {md : Region.Mode} {S : World → Prop} {ds : List Nat} {T : Bool × List (List Nat × List Nat)}
end
end Go.Proofs.YtajlknkplpohlaaW.PrintLast
