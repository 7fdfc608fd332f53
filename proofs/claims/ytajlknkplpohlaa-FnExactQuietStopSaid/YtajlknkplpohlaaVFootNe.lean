-- The words of the kit's print that this seat's texts use (trimmed by wip/tools/wtrim.py of this session).
import Derived.Test.YtajlknkplpohlaaVN
namespace Go.Proofs.YtajlknkplpohlaaW.PrintWords
open Go.RowKit
namespace Kd
section
variable {α : Type} {d : Kd α} {W : World} {g n : Nat} {S ok : Nat → Prop} {A : Option Addr} {ad : Addr} {xs : List α}
end
end Kd
end Go.Proofs.YtajlknkplpohlaaW.PrintWords
