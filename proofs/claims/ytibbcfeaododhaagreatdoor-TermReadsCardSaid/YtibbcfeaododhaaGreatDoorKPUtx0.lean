-- Printed by the kit's print.py over several roots at once (printall.sh)
import Derived.Test.YtibbcfeaododhaaGreatDoorProg
import Derived.Below
import Derived.Deep.Draws
import Derived.Deep.AppendLies
import Derived.Maps.AppendAt
import Derived.OwnWalk
import Derived.Laws.BytesArg
import Derived.Laws.MakeOwn
import Derived.Laws.OwnMore
import Derived.Deep.OwnRows
import Derived.Tactics
import Derived.Lib.ConvBytes
import Derived.Laws.Slices
import Derived.WalkKit
import Derived.KernelRfl
import Derived.RowKit3
import Derived.Deep.LoopGhost
import Derived.Deep.QuietTactic
import Derived.BigQuiet
import Derived.WideLaws
import Derived.Deep.DeepCutAuto
import Derived.Deep.CutBlock
import Derived.Deep.RegionHeld3
import Derived.Laws.Rows
import Derived.Lib.AppendStr
import Derived.ArgAppend
import Derived.Laws.IdiomCopy
import Derived.OrdersHeld
import Derived.Laws.BitsLemmas
import Derived.RowKit
import Derived.Test.YtibbcfeaododhaaGreatDoorKWWords
import Derived.Test.YtibbcfeaododhaaGreatDoorKWLast
import Derived.Test.YtibbcfeaododhaaGreatDoorKWTab
import Derived.Test.YtibbcfeaododhaaGreatDoorKWApart
import Derived.Test.YtibbcfeaododhaaGreatDoorKWEqStruct
import Derived.Test.YtibbcfeaododhaaGreatDoorKWRepsOne
import Derived.Test.YtibbcfeaododhaaGreatDoorKWGuard
import Derived.Test.YtibbcfeaododhaaGreatDoorKWMore
namespace Go.Proofs.YtibbcfeaododhaaGreatDoor.PUt
open Go.RowKit Go.Proofs.YtibbcfeaododhaaGreatDoorW.PrintWords Go.Proofs.YtibbcfeaododhaaGreatDoorW.PrintLast Go.Proofs.YtibbcfeaododhaaGreatDoorW.PrintMore
attribute [local go_sem] max2_int min2_int max_two min_two max_three min_three max_four min_four   -- for this text's walks alone
set_option linter.unusedVariables false
set_option linter.unusedSimpArgs false
-- the values' own types
end Go.Proofs.YtibbcfeaododhaaGreatDoor.PUt
