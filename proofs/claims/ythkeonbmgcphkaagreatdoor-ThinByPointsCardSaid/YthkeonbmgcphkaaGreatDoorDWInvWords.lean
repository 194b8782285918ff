-- Written by this session's own programs (wip/tools).
import Derived.Test.YthkeonbmgcphkaaGreatDoorDWInv
import Derived.Test.YthkeonbmgcphkaaGreatDoorDWFootNe
namespace Go.Proofs.YthkeonbmgcphkaaGreatDoorW.PrintWords
open Go.RowKit
end Go.Proofs.YthkeonbmgcphkaaGreatDoorW.PrintWords
namespace Go.Proofs.YthkeonbmgcphkaaGreatDoorW.PrintLast
section
variable {ops : Array Oper} {a : Act} {o og : Oper} {g : Nat} {t : Tmp} {u : Bool}
end
end Go.Proofs.YthkeonbmgcphkaaGreatDoorW.PrintLast
