-- Written by a program of this session (wip/patch_print.py, over the kit's print) and not by hand; Lean checks every word.
import Derived.Test.YtnnaiaiddjkjnaaDoorProg
import Derived.Below
import Derived.Deep.Draws
import Derived.Deep.AppendLies
import Derived.Maps.AppendAt
import Derived.OwnWalk
import Derived.Laws.BytesArg
import Derived.Laws.MakeOwn
import Derived.Laws.OwnMore
import Derived.Deep.OwnRows
import Derived.Tactics
import Derived.Lib.ConvBytes
import Derived.Laws.Slices
import Derived.WalkKit
import Derived.KernelRfl
import Derived.RowKit3
import Derived.Deep.LoopGhost
import Derived.Deep.QuietTactic
import Derived.BigQuiet
import Derived.WideLaws
import Derived.Deep.DeepCutAuto
import Derived.Deep.CutBlock
import Derived.Deep.RegionHeld3
import Derived.Laws.Rows
import Derived.Lib.AppendStr
import Derived.ArgAppend
import Derived.Laws.IdiomCopy
import Derived.OrdersHeld
import Derived.Laws.BitsLemmas
import Derived.RowKit
import Derived.Test.YtnnaiaiddjkjnaaDoorWWords
import Derived.Test.YtnnaiaiddjkjnaaDoorWLast
import Derived.Test.YtnnaiaiddjkjnaaDoorWTab
import Derived.Test.YtnnaiaiddjkjnaaDoorWFour
import Derived.Test.YtnnaiaiddjkjnaaDoorWQPut
import Derived.Test.YtnnaiaiddjkjnaaDoorWApart
import Derived.Test.YtnnaiaiddjkjnaaDoorWArr
import Derived.Test.YtnnaiaiddjkjnaaDoorWZeros
import Derived.Test.YtnnaiaiddjkjnaaDoorWFoot
import Derived.Test.YtnnaiaiddjkjnaaDoorWKept
import Derived.Test.YtnnaiaiddjkjnaaDoorWShare
import Derived.Test.YtnnaiaiddjkjnaaDoorWN
import Derived.Test.YtnnaiaiddjkjnaaDoorWFootNe
import Derived.Test.YtnnaiaiddjkjnaaDoorWAt
import Derived.Test.YtnnaiaiddjkjnaaDoorWEqStruct
import Derived.Test.YtnnaiaiddjkjnaaDoorWRepsOne
import Derived.Test.YtnnaiaiddjkjnaaDoorWInv
import Derived.Test.YtnnaiaiddjkjnaaDoorWInvWords
import Derived.Test.YtnnaiaiddjkjnaaDoorWGuard
import Derived.Test.YtnnaiaiddjkjnaaDoorWNEv
import Derived.Test.YtnnaiaiddjkjnaaDoorWMore
namespace Go.Proofs.YtnnaiaiddjkjnaaDoor.PFnExactDeedText
open Go.RowKit Go.Proofs.YtnnaiaiddjkjnaaDoorW.PrintWords Go.Proofs.YtnnaiaiddjkjnaaDoorW.PrintLast Go.Proofs.YtnnaiaiddjkjnaaDoorW.PrintMore
attribute [local go_sem] max2_int min2_int max_two min_two max_three min_three max_four min_four   -- for this text's walks alone
set_option linter.unusedVariables false
set_option linter.unusedSimpArgs false



def errW : Option Int → Value
  | none => .nilIface
  | some c => .iface 0 (.int .i64 c)
theorem errW_none : errW none = .nilIface := rfl
theorem errW_some (c : Int) : errW (some c) = .iface 0 (.int .i64 c) := rfl

theorem info5 : (Tryd.prog.info? 5).map (fun i => (i.zero, i.size, i.bytes)) = some (some (.int .u8 0), 1, 1) := by kernel_rfl
-- the values' own types

end Go.Proofs.YtnnaiaiddjkjnaaDoor.PFnExactDeedText
