/-
  The closed facts of TallyNone's row, one theorem each. No condition of its own.
-/
import Derived.Test.YteejogoiikmlgaaGreatDoorTLaid
import Derived.JoinedCond
namespace Go.Proofs.YteejogoiikmlgaaGreatDoor.tallyNone
set_option maxRecDepth 100000
theorem closed0 : (Rows.tallyNoneRow.wf (OpenSpec.ofChange (OpenSpec.ofChange Rows.tallyNoneSpec).bare)) = true := by kernel_rfl
theorem closed1 : (laidOutB Tryz.prog) = true := by kernel_rfl
theorem closed2 : (mapsRowed Tryz.prog) = true := by kernel_rfl
theorem closed3 : (Tryz.f5.params.all (Tryz.prog.readableRec ·)) = true := by kernel_rfl
theorem closed4 : (namedTie Tryz.prog Rows.tallyNoneRow.named (OpenSpec.ofChange Rows.tallyNoneSpec).bare.vars) = true := by kernel_rfl
theorem closed5 : ((Rows.tallyNoneRow.stops == [])) = true := by kernel_rfl
theorem closed6 : ((Tryz.prog.stops == [])) = true := by kernel_rfl
theorem closed7 : ((Rows.tallyNoneRow.knobs == [])) = true := by kernel_rfl
theorem closed8 : ((Tryz.prog.stopKnobs == [])) = true := by kernel_rfl
theorem closed9 : ((Rows.tallyNoneRow.inPlace == Tryz.prog.inPlace 5)) = true := by kernel_rfl
theorem closed10 : ((Rows.tallyNoneRow.unfollowed == Tryz.prog.unfollowed 5)) = true := by kernel_rfl
theorem closed11 : ((Rows.tallyNoneRow.recurses == Tryz.prog.recurses 5)) = true := by kernel_rfl
theorem closed12 : ((Rows.tallyNoneRow.named == Tryz.prog.varsNamed 5)) = true := by kernel_rfl
theorem closed13 : ((Rows.tallyNoneRow.maps == (Tryz.f5.params.toList ++ (OpenSpec.ofChange Rows.tallyNoneSpec).bare.plain.varTypes Tryz.prog).any (Tryz.prog.mapsRec ·))) = true := by kernel_rfl
theorem closed14 : ((Rows.tallyNoneRow.ifaces == (Tryz.f5.params.toList ++ (OpenSpec.ofChange Rows.tallyNoneSpec).bare.plain.varTypes Tryz.prog).any (Tryz.prog.ifacesRec ·))) = true := by kernel_rfl
theorem closed15 : ((Rows.tallyNoneRow.mapsOut == Tryz.prog.mapsAmong Tryz.f5.resultTypes.toList)) = true := by kernel_rfl
theorem closed16 : ((Rows.tallyNoneRow.loops == (Tryz.f5.params.toList ++ (OpenSpec.ofChange Rows.tallyNoneSpec).bare.plain.varTypes Tryz.prog).any (Tryz.prog.loopsFrom ·))) = true := by kernel_rfl
theorem closed17 : ((Rows.tallyNoneRow.wideKeys == (Tryz.f5.params.toList ++ (OpenSpec.ofChange Rows.tallyNoneSpec).bare.plain.varTypes Tryz.prog ++ Tryz.f5.resultTypes.toList).any (Tryz.prog.wideKeysFrom ·))) = true := by kernel_rfl
theorem closed18 : ((OpenSpec.ofChange Rows.tallyNoneSpec).bare.vars.all (Tryz.prog.varReadable ·)) = true := by kernel_rfl
theorem closed19 : (Tryz.f5.resultTypes.all (fun t => Tryz.prog.readableRec t && decide (t < Tryz.prog.types.size))) = true := by kernel_rfl
theorem closed20 : ((Rows.tallyNoneRow.ifacesOut == Tryz.f5.resultTypes.toList.any (Tryz.prog.ifacesRec ·))) = true := by kernel_rfl
theorem closed21 : ((Rows.tallyNoneRow.loopsOut == Tryz.f5.resultTypes.toList.any (Tryz.prog.loopsFrom ·))) = true := by kernel_rfl
theorem closed22 : ((Rows.tallyNoneRow.plainKeys == Tryz.prog.plainKeys)) = true := by kernel_rfl
theorem closed23 : (Rows.tallyNoneRow.shortTexts.isNone) = true := by kernel_rfl
theorem closed24 : (Tryz.prog.stopsHeard) = true := by kernel_rfl
theorem closed25 : (Tryz.prog.mayEnter) = true := by kernel_rfl
theorem closed26 : ((Rows.tallyNoneRow.lifted == Tryz.prog.liftsFinal)) = true := by kernel_rfl
theorem closed27 : ((Tryz.prog.make == some Rows.tallyNoneRow.make)) = true := by kernel_rfl
theorem closed28 : ((Rows.tallyNoneRow.kinds == (if Rows.tallyNoneRow.domain.isEmpty then [] else Tryz.f5.params.toList.map fun t => match Tryz.prog.underlying t with | some (.int k) => some k | _ => none))) = true := by kernel_rfl
theorem closed29 : ((Rows.tallyNoneRow.pinned == Rows.tallyNoneRow.pinnedBy)) = true := by kernel_rfl
theorem closed30 : ((Rows.tallyNoneRow.veiled == (Tryz.f5.params.toList ++ (OpenSpec.ofChange Rows.tallyNoneSpec).bare.plain.varTypes Tryz.prog ++ Tryz.f5.resultTypes.toList).any (Tryz.prog.veiledRec ·))) = true := by kernel_rfl
theorem closed31 : (Rows.tallyNoneRow.veiledFits Tryz.prog Tryz.f5.params.toList (Tryz.f5.params.toList ++ (OpenSpec.ofChange Rows.tallyNoneSpec).bare.plain.varTypes Tryz.prog ++ Tryz.f5.resultTypes.toList)) = true := by kernel_rfl
theorem closed : joinedFacts Tryz.prog 5 Tryz.f5 (OpenSpec.ofChange Rows.tallyNoneSpec).bare Rows.tallyNoneRow = true := by
  unfold joinedFacts
  rw [closed0, closed1, closed2, closed3, closed4, closed5, closed6, closed7, closed8, closed9, closed10, closed11, closed12, closed13, closed14, closed15, closed16, closed17, closed18, closed19, closed20, closed21, closed22, closed23, closed24, closed25, closed26, closed27, closed29, closed30, closed31]
  kernel_rfl
end Go.Proofs.YteejogoiikmlgaaGreatDoor.tallyNone
