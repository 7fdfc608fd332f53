-- The words of the kit's print that this seat's texts use (trimmed by wip/tools/wtrim.py of this session).
import Derived.Test.YtajlknkplpohlaaVWords
import Derived.Laws.StructEq
namespace Go.Proofs.YtajlknkplpohlaaW.PrintWords
open Go.RowKit
section
variable {P : Program} {d : Nat} {xs ys : Array Value} {f : Field} {fs : List Field} {a b : Value} {r s : Bool} {w : World}
end
end Go.Proofs.YtajlknkplpohlaaW.PrintWords
