import Derived.Test.YtegmcmndjnbkaaaDoorProg
import Derived.Below
import Derived.Deep.Draws
import Derived.Deep.AppendLies
import Derived.Maps.AppendAt
import Derived.OwnWalk
import Derived.Laws.BytesArg
import Derived.Laws.MakeOwn
import Derived.Laws.OwnMore
import Derived.Deep.OwnRows
import Derived.Tactics
import Derived.Lib.ConvBytes
import Derived.Laws.Slices
import Derived.WalkKit
import Derived.KernelRfl
import Derived.RowKit3
import Derived.Deep.LoopGhost
import Derived.Deep.QuietTactic
import Derived.BigQuiet
import Derived.WideLaws
import Derived.Deep.DeepCutAuto
import Derived.Deep.CutBlock
import Derived.Deep.RegionHeld3
import Derived.Laws.Rows
import Derived.Lib.AppendStr
import Derived.ArgAppend
import Derived.Laws.IdiomCopy
import Derived.OrdersHeld
import Derived.Laws.BitsLemmas
import Derived.RowKit
import Derived.ChangeKeysEq
import Derived.Laws.Runes
import Derived.Test.YtegmcmndjnbkaaaDoorMaWWords
import Derived.Test.YtegmcmndjnbkaaaDoorMaWLast
import Derived.Test.YtegmcmndjnbkaaaDoorMaWTab
import Derived.Test.YtegmcmndjnbkaaaDoorMaWApart
import Derived.Test.YtegmcmndjnbkaaaDoorMaWFoot
import Derived.Test.YtegmcmndjnbkaaaDoorMaWKept
import Derived.Test.YtegmcmndjnbkaaaDoorMaWShare
import Derived.Test.YtegmcmndjnbkaaaDoorMaWN
import Derived.Laws.StructEq
import Derived.Test.YtegmcmndjnbkaaaDoorMaWRepsOne
import Derived.Test.YtegmcmndjnbkaaaDoorMaWGuard
import Derived.Test.YtegmcmndjnbkaaaDoorMaWMore
import Derived.MapKept
import Derived.ScopeJumps
import Derived.WalkMore
import Derived.RangeFuncNested
import Derived.RangeFuncBound
import Derived.RangeFuncCalls
import Derived.RangeFuncLeaves
import Derived.Shelf.Abstract
import Derived.Shelf.RegionOpen
import Derived.OwnWalkIn
import Derived.TacticsInMore
import Derived.LoopNIn
import Derived.LoopIn
import Derived.RangeFuncBox
import Derived.Test.YtegmcmndjnbkaaaDoorMaShelf
namespace Go.Proofs.YtegmcmndjnbkaaaDoor.PTerm
open Go.RowKit Go.Proofs.YtegmcmndjnbkaaaDoorW.PrintWords Go.Proofs.YtegmcmndjnbkaaaDoorW.PrintLast Go.Proofs.YtegmcmndjnbkaaaDoorW.PrintMore
attribute [local go_sem] max2_int min2_int max_two min_two max_three min_three max_four min_four
set_option linter.unusedVariables false
set_option linter.unusedSimpArgs false
def errW : Option Int → Value
  | none => .nilIface
  | some c => .iface 0 (.int .i64 c)
theorem errW_none : errW none = .nilIface := rfl
theorem errW_some (c : Int) : errW (some c) = .iface 0 (.int .i64 c) := rfl
theorem info5 : (Tryd.prog.info? 5).map (fun i => (i.zero, i.size, i.bytes)) = some (some (.int .u8 0), 1, 1) := by kernel_rfl
theorem info79 : (Tryd.prog.info? 79).map (fun i => (i.zero, i.size, i.bytes)) = some (some (.agg #[(.int .i64 0), (.int .i64 0)]), 2, 16) := by kernel_rfl
structure S79 where
  f0 : Int
  f1 : Int
def k79 : Kd S79 := Kd.iso (Kd.pair (Kd.int .i64) (Kd.int .i64)) (fun x : S79 => (x.f0, x.f1))
theorem k79_mkM (w : World) (base : Nat) (ok : Nat → Prop) (x : S79)  : k79.M w base ok x [.int .i64 x.f0, .int .i64 x.f1] := ⟨[.int .i64 x.f0], [.int .i64 x.f1], rfl, rfl, rfl⟩
end Go.Proofs.YtegmcmndjnbkaaaDoor.PTerm
