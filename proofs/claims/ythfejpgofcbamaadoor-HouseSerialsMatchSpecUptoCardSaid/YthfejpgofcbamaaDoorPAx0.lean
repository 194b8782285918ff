-- Walks in one form, written by this session's own program (wip/tools): a Lean function for each Go function and a proof that the call comes to its answers.
import Derived.Test.YthfejpgofcbamaaDoorProg
import Derived.Below
import Derived.Deep.Draws
import Derived.Deep.AppendLies
import Derived.Maps.AppendAt
import Derived.OwnWalk
import Derived.Laws.BytesArg
import Derived.Laws.MakeOwn
import Derived.Laws.OwnMore
import Derived.Deep.OwnRows
import Derived.Tactics
import Derived.Lib.ConvBytes
import Derived.Laws.Slices
import Derived.WalkKit
import Derived.KernelRfl
import Derived.RowKit3
import Derived.Deep.LoopGhost
import Derived.Deep.QuietTactic
import Derived.BigQuiet
import Derived.WideLaws
import Derived.Deep.DeepCutAuto
import Derived.Deep.CutBlock
import Derived.Deep.RegionHeld3
import Derived.Laws.Rows
import Derived.Lib.AppendStr
import Derived.ArgAppend
import Derived.Laws.IdiomCopy
import Derived.OrdersHeld
import Derived.Laws.BitsLemmas
import Derived.RowKit
import Derived.Test.YthfejpgofcbamaaDoorGlob
import Derived.Test.YthfejpgofcbamaaDoorShelf
import Derived.Test.YthfejpgofcbamaaDoorWWords
import Derived.Test.YthfejpgofcbamaaDoorWLast
import Derived.Test.YthfejpgofcbamaaDoorWTab
import Derived.Test.YthfejpgofcbamaaDoorWFour
import Derived.Test.YthfejpgofcbamaaDoorWQPut
import Derived.Test.YthfejpgofcbamaaDoorWApart
import Derived.Test.YthfejpgofcbamaaDoorWArr
import Derived.Test.YthfejpgofcbamaaDoorWZeros
import Derived.Test.YthfejpgofcbamaaDoorWFoot
import Derived.Test.YthfejpgofcbamaaDoorWKept
import Derived.Test.YthfejpgofcbamaaDoorWShare
import Derived.Test.YthfejpgofcbamaaDoorWN
import Derived.Test.YthfejpgofcbamaaDoorWFootNe
import Derived.Test.YthfejpgofcbamaaDoorWAt
import Derived.Test.YthfejpgofcbamaaDoorWEqStruct
import Derived.Test.YthfejpgofcbamaaDoorWRepsOne
import Derived.Test.YthfejpgofcbamaaDoorWInv
import Derived.Test.YthfejpgofcbamaaDoorWInvWords
import Derived.Test.YthfejpgofcbamaaDoorWGuard
import Derived.Test.YthfejpgofcbamaaDoorWNEv
import Derived.Test.YthfejpgofcbamaaDoorWMore
namespace Go.Proofs.YthfejpgofcbamaaDoor.PA
open Go.RowKit Go.Proofs.YthfejpgofcbamaaDoorW.PrintWords Go.Proofs.YthfejpgofcbamaaDoorW.PrintLast Go.Proofs.YthfejpgofcbamaaDoorW.PrintMore
attribute [local go_sem] max2_int min2_int max_two min_two max_three min_three max_four min_four   -- for this text's walks alone
set_option linter.unusedVariables false
set_option linter.unusedSimpArgs false



def errW : Option Int → Value
  | none => .nilIface
  | some c => .iface 0 (.int .i64 c)
theorem errW_none : errW none = .nilIface := rfl
theorem errW_some (c : Int) : errW (some c) = .iface 0 (.int .i64 c) := rfl

theorem info9 : (Tryd.prog.info? 9).map (fun i => (i.zero, i.size, i.bytes)) = some (some (.string ⟨#[]⟩), 1, 16) := by kernel_rfl
-- the values' own types

end Go.Proofs.YthfejpgofcbamaaDoor.PA
