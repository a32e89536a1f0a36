-- PRINTED BY print.sh 35421559b90ae4d0a3588c463048766b98c2df88dd9212a6774a882060cdf62d: not written by this session
import Derived.Test.YtojkoedkecnccaaDoorProg
import Derived.Below
import Derived.Deep.Draws
import Derived.Deep.AppendLies
import Derived.Maps.AppendAt
import Derived.OwnWalk
import Derived.Laws.BytesArg
import Derived.Laws.MakeOwn
import Derived.Laws.OwnMore
import Derived.Deep.OwnRows
import Derived.Tactics
import Derived.Lib.ConvBytes
import Derived.Laws.Slices
import Derived.WalkKit
import Derived.KernelRfl
import Derived.RowKit3
import Derived.Deep.LoopGhost
import Derived.Deep.QuietTactic
import Derived.BigQuiet
import Derived.WideLaws
import Derived.Deep.DeepCutAuto
import Derived.Deep.CutBlock
import Derived.Deep.RegionHeld3
import Derived.Laws.Rows
import Derived.Lib.AppendStr
import Derived.ArgAppend
import Derived.Laws.IdiomCopy
import Derived.OrdersHeld
import Derived.Laws.BitsLemmas
import Derived.RowKit
import Derived.Test.YtojkoedkecnccaaDoorWWords
import Derived.Test.YtojkoedkecnccaaDoorWLast
import Derived.Test.YtojkoedkecnccaaDoorWTab
import Derived.Test.YtojkoedkecnccaaDoorWFour
import Derived.Test.YtojkoedkecnccaaDoorWQPut
import Derived.Test.YtojkoedkecnccaaDoorWApart
import Derived.Test.YtojkoedkecnccaaDoorWArr
import Derived.Test.YtojkoedkecnccaaDoorWZeros
import Derived.Test.YtojkoedkecnccaaDoorWFoot
import Derived.Test.YtojkoedkecnccaaDoorWKept
import Derived.Test.YtojkoedkecnccaaDoorWShare
import Derived.Test.YtojkoedkecnccaaDoorWN
import Derived.Test.YtojkoedkecnccaaDoorWFootNe
import Derived.Test.YtojkoedkecnccaaDoorWAt
import Derived.Test.YtojkoedkecnccaaDoorWEqStruct
import Derived.Test.YtojkoedkecnccaaDoorWRepsOne
import Derived.Test.YtojkoedkecnccaaDoorWInv
import Derived.Test.YtojkoedkecnccaaDoorWInvWords
import Derived.Test.YtojkoedkecnccaaDoorWGuard
import Derived.Test.YtojkoedkecnccaaDoorWNEv
import Derived.Test.YtojkoedkecnccaaDoorWMore
namespace Go.Proofs.YtojkoedkecnccaaDoor.PUtfBad
open Go.RowKit Go.Proofs.YtojkoedkecnccaaDoorW.PrintWords Go.Proofs.YtojkoedkecnccaaDoorW.PrintLast Go.Proofs.YtojkoedkecnccaaDoorW.PrintMore
attribute [local go_sem] max2_int min2_int max_two min_two max_three min_three max_four min_four   -- for this text's walks alone
set_option linter.unusedVariables false
set_option linter.unusedSimpArgs false



def errW : Option Int → Value
  | none => .nilIface
  | some c => .iface 0 (.int .i64 c)
theorem errW_none : errW none = .nilIface := rfl
theorem errW_some (c : Int) : errW (some c) = .iface 0 (.int .i64 c) := rfl

-- the values' own types

end Go.Proofs.YtojkoedkecnccaaDoor.PUtfBad
