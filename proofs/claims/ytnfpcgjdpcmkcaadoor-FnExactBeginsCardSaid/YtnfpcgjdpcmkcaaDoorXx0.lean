-- WRITTEN by xprint.py of this repo: the kit's print.py with contracts given by hand (given.py). Lean checks it.
import Derived.Test.YtnfpcgjdpcmkcaaDoorProg
import Derived.Below
import Derived.Deep.Draws
import Derived.Deep.AppendLies
import Derived.Maps.AppendAt
import Derived.OwnWalk
import Derived.Laws.BytesArg
import Derived.Laws.MakeOwn
import Derived.Laws.OwnMore
import Derived.Deep.OwnRows
import Derived.Tactics
import Derived.Lib.ConvBytes
import Derived.Laws.Slices
import Derived.WalkKit
import Derived.KernelRfl
import Derived.RowKit3
import Derived.Deep.LoopGhost
import Derived.Deep.QuietTactic
import Derived.BigQuiet
import Derived.WideLaws
import Derived.Deep.DeepCutAuto
import Derived.Deep.CutBlock
import Derived.Deep.RegionHeld3
import Derived.Laws.Rows
import Derived.Lib.AppendStr
import Derived.ArgAppend
import Derived.Laws.IdiomCopy
import Derived.OrdersHeld
import Derived.Laws.BitsLemmas
import Derived.RowKit
import Derived.Shelf.Abstract
import Derived.Lib.SliceRun
import Derived.WalkSpells
import Derived.Test.YtnfpcgjdpcmkcaaDoorSh
import Derived.Shelf.Strings.SlTrimAscii
import Derived.Test.YtnfpcgjdpcmkcaaDoorWWords
import Derived.Test.YtnfpcgjdpcmkcaaDoorWLast
import Derived.Test.YtnfpcgjdpcmkcaaDoorWTab
import Derived.Test.YtnfpcgjdpcmkcaaDoorWFour
import Derived.Test.YtnfpcgjdpcmkcaaDoorWQPut
import Derived.Test.YtnfpcgjdpcmkcaaDoorWApart
import Derived.Test.YtnfpcgjdpcmkcaaDoorWArr
import Derived.Test.YtnfpcgjdpcmkcaaDoorWZeros
import Derived.Test.YtnfpcgjdpcmkcaaDoorWFoot
import Derived.Test.YtnfpcgjdpcmkcaaDoorWKept
import Derived.Test.YtnfpcgjdpcmkcaaDoorWShare
import Derived.Test.YtnfpcgjdpcmkcaaDoorWN
import Derived.Test.YtnfpcgjdpcmkcaaDoorWFootNe
import Derived.Test.YtnfpcgjdpcmkcaaDoorWAt
import Derived.Test.YtnfpcgjdpcmkcaaDoorWEqStruct
import Derived.Test.YtnfpcgjdpcmkcaaDoorWRepsOne
import Derived.Test.YtnfpcgjdpcmkcaaDoorWInv
import Derived.Test.YtnfpcgjdpcmkcaaDoorWInvWords
import Derived.Test.YtnfpcgjdpcmkcaaDoorWGuard
import Derived.Test.YtnfpcgjdpcmkcaaDoorWNEv
import Derived.Test.YtnfpcgjdpcmkcaaDoorWMore
namespace Go.Proofs.YtnfpcgjdpcmkcaaDoor.X
open Go.RowKit Go.Proofs.YtnfpcgjdpcmkcaaDoorW.PrintWords Go.Proofs.YtnfpcgjdpcmkcaaDoorW.PrintLast Go.Proofs.YtnfpcgjdpcmkcaaDoorW.PrintMore
attribute [local go_sem] max2_int min2_int max_two min_two max_three min_three max_four min_four   -- for this text's walks alone
set_option linter.unusedVariables false
set_option linter.unusedSimpArgs false



def errW : Option Int → Value
  | none => .nilIface
  | some c => .iface 0 (.int .i64 c)
theorem errW_none : errW none = .nilIface := rfl
theorem errW_some (c : Int) : errW (some c) = .iface 0 (.int .i64 c) := rfl

-- the values' own types

end Go.Proofs.YtnfpcgjdpcmkcaaDoor.X
