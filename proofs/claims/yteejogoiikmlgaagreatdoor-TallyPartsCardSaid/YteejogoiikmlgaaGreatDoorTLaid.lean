/-
  A world that lays the five tables that the rows list, for the witness; what the closed checks give. No condition of its own.
-/
import Derived.Test.YteejogoiikmlgaaGreatDoorTie
import Derived.Test.YteejogoiikmlgaaGreatDoorCards
import Derived.WalkKit
import Derived.ProofKit
import Derived.OpenShut
import Derived.ShutString
import Derived.SizedLaws
import Derived.Deep.DeepHandedRow
import Derived.Lib.LaidTab
import Derived.Lib.LaidU8
import Derived.PinnedBridge
import Derived.MakeChecks
namespace Go.Proofs.YteejogoiikmlgaaGreatDoor
open Go.RowKit
set_option maxRecDepth 100000
abbrev laidList : List (String × DataW Unit) := [("math/bits.deBruijn32tab", Rows.laid_math_bits_deBruijn32tab), ("math/bits.deBruijn64tab", Rows.laid_math_bits_deBruijn64tab), ("internal/strconv.uint64pow10", Rows.laid_internal_strconv_uint64pow10), ("unicode/utf8.acceptRanges", Rows.laid_unicode_utf8_acceptRanges), ("unicode/utf8.first", Rows.laid_unicode_utf8_first)]

def intsOf (d : DataW Unit) : List Int :=
  match d with
  | .agg l => l.map fun x => match x with
    | .lit (.int _ n) => n
    | _ => 0
  | _ => []
/-- a world for the witness: the settled one, the tables holding what they are listed with -/
noncomputable def layRow (k : IntKind) (zs : List Int) : Obj → Obj
  | .cells _ t frozen => .cells (zs.map fun z => Value.int k z).toArray t frozen
  | o => o
noncomputable def layFirst : Obj → Obj
  | .cells _ t frozen => .cells (Lib.firstTab.map fun z => Value.int .u8 z).toArray t frozen
  | o => o
noncomputable def layAccept : Obj → Obj
  | .cells _ t frozen => .cells (((List.range 16).map fun i => [Value.int .u8 (Lib.accLo i), Value.int .u8 (Lib.accHi i)]).flatten).toArray t frozen
  | o => o
noncomputable def laidWorld (os : Os) : World :=
  { World.holding Tryz.prog os ⟨#[], #[], []⟩ with heap := (((((World.holding Tryz.prog os ⟨#[], #[], []⟩).heap.modify 0 (layRow .u64 (intsOf Rows.laid_internal_strconv_uint64pow10))).modify 2 (layRow .u8 (intsOf Rows.laid_math_bits_deBruijn32tab))).modify 3 (layRow .u8 (intsOf Rows.laid_math_bits_deBruijn64tab))).modify 4 layFirst).modify 5 layAccept }
theorem laid_met (os : Os) (args : Array Value) : laidMet Tryz.prog laidList ((laidWorld os).forCall (fun _ _ => 0) ⟨#[], args, []⟩).memory :=
  laidMet_of_run' 8 (by kernel_rfl) (by kernel_rfl)
theorem own : ownKnob Tryz.prog.godebug = none := by kernel_rfl
theorem nothing_goes : Tryz.prog.funcs.any Func.goes = false := by kernel_rfl
theorem goes_of {c : OpenClaim} (hs : c.start = .entering) : false = c.goesBy Tryz.prog := by
  have hg : ∀ f, Tryz.prog.goes f = false := by
    intro f
    have h0 := nothing_goes
    rw [Array.any_eq_false] at h0
    unfold Program.goes
    rw [nothing_goes, Bool.and_false, Bool.or_false, List.any_eq_false]
    intro g _
    cases hq : Tryz.prog.funcs[g]? with
    | none => simp
    | some fn =>
      obtain ⟨hlt, he⟩ := Array.getElem?_eq_some_iff.1 hq
      have := h0 g hlt
      simp only [Option.any_some]
      rw [← he]
      exact this
  unfold OpenClaim.goesBy Program.goesAt Program.goesFrom
  rw [hs]
  cases Tryz.prog.funcNamed c.func with
  | none => rfl
  | some f => simp [hg]
end Go.Proofs.YteejogoiikmlgaaGreatDoor
