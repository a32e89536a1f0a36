/-
  The closed facts of TallyParts's row, one theorem each. No condition of its own.
-/
import Derived.Test.YteejogoiikmlgaaGreatDoorTLaid
import Derived.JoinedCond
namespace Go.Proofs.YteejogoiikmlgaaGreatDoor.tallyParts
set_option maxRecDepth 100000
theorem closed0 : (Rows.tallyPartsRow.wf (OpenSpec.ofChange (OpenSpec.ofChange Rows.tallyPartsSpec).bare)) = true := by kernel_rfl
theorem closed1 : (laidOutB Tryz.prog) = true := by kernel_rfl
theorem closed2 : (mapsRowed Tryz.prog) = true := by kernel_rfl
theorem closed3 : (Tryz.f4.params.all (Tryz.prog.readableRec ·)) = true := by kernel_rfl
theorem closed4 : (namedTie Tryz.prog Rows.tallyPartsRow.named (OpenSpec.ofChange Rows.tallyPartsSpec).bare.vars) = true := by kernel_rfl
theorem closed5 : ((Rows.tallyPartsRow.stops == [])) = true := by kernel_rfl
theorem closed6 : ((Tryz.prog.stops == [])) = true := by kernel_rfl
theorem closed7 : ((Rows.tallyPartsRow.knobs == [])) = true := by kernel_rfl
theorem closed8 : ((Tryz.prog.stopKnobs == [])) = true := by kernel_rfl
theorem closed9 : ((Rows.tallyPartsRow.inPlace == Tryz.prog.inPlace 4)) = true := by kernel_rfl
theorem closed10 : ((Rows.tallyPartsRow.unfollowed == Tryz.prog.unfollowed 4)) = true := by kernel_rfl
theorem closed11 : ((Rows.tallyPartsRow.recurses == Tryz.prog.recurses 4)) = true := by kernel_rfl
theorem closed12 : ((Rows.tallyPartsRow.named == Tryz.prog.varsNamed 4)) = true := by kernel_rfl
theorem closed13 : ((Rows.tallyPartsRow.maps == (Tryz.f4.params.toList ++ (OpenSpec.ofChange Rows.tallyPartsSpec).bare.plain.varTypes Tryz.prog).any (Tryz.prog.mapsRec ·))) = true := by kernel_rfl
theorem closed14 : ((Rows.tallyPartsRow.ifaces == (Tryz.f4.params.toList ++ (OpenSpec.ofChange Rows.tallyPartsSpec).bare.plain.varTypes Tryz.prog).any (Tryz.prog.ifacesRec ·))) = true := by kernel_rfl
theorem closed15 : ((Rows.tallyPartsRow.mapsOut == Tryz.prog.mapsAmong Tryz.f4.resultTypes.toList)) = true := by kernel_rfl
theorem closed16 : ((Rows.tallyPartsRow.loops == (Tryz.f4.params.toList ++ (OpenSpec.ofChange Rows.tallyPartsSpec).bare.plain.varTypes Tryz.prog).any (Tryz.prog.loopsFrom ·))) = true := by kernel_rfl
theorem closed17 : ((Rows.tallyPartsRow.wideKeys == (Tryz.f4.params.toList ++ (OpenSpec.ofChange Rows.tallyPartsSpec).bare.plain.varTypes Tryz.prog ++ Tryz.f4.resultTypes.toList).any (Tryz.prog.wideKeysFrom ·))) = true := by kernel_rfl
theorem closed18 : ((OpenSpec.ofChange Rows.tallyPartsSpec).bare.vars.all (Tryz.prog.varReadable ·)) = true := by kernel_rfl
theorem closed19 : (Tryz.f4.resultTypes.all (fun t => Tryz.prog.readableRec t && decide (t < Tryz.prog.types.size))) = true := by kernel_rfl
theorem closed20 : ((Rows.tallyPartsRow.ifacesOut == Tryz.f4.resultTypes.toList.any (Tryz.prog.ifacesRec ·))) = true := by kernel_rfl
theorem closed21 : ((Rows.tallyPartsRow.loopsOut == Tryz.f4.resultTypes.toList.any (Tryz.prog.loopsFrom ·))) = true := by kernel_rfl
theorem closed22 : ((Rows.tallyPartsRow.plainKeys == Tryz.prog.plainKeys)) = true := by kernel_rfl
theorem closed23 : (Rows.tallyPartsRow.shortTexts.isNone) = true := by kernel_rfl
theorem closed24 : (Tryz.prog.stopsHeard) = true := by kernel_rfl
theorem closed25 : (Tryz.prog.mayEnter) = true := by kernel_rfl
theorem closed26 : ((Rows.tallyPartsRow.lifted == Tryz.prog.liftsFinal)) = true := by kernel_rfl
theorem closed27 : ((Tryz.prog.make == some Rows.tallyPartsRow.make)) = true := by kernel_rfl
theorem closed28 : ((Rows.tallyPartsRow.kinds == (if Rows.tallyPartsRow.domain.isEmpty then [] else Tryz.f4.params.toList.map fun t => match Tryz.prog.underlying t with | some (.int k) => some k | _ => none))) = true := by kernel_rfl
theorem closed29 : ((Rows.tallyPartsRow.pinned == Rows.tallyPartsRow.pinnedBy)) = true := by kernel_rfl
theorem closed30 : ((Rows.tallyPartsRow.veiled == (Tryz.f4.params.toList ++ (OpenSpec.ofChange Rows.tallyPartsSpec).bare.plain.varTypes Tryz.prog ++ Tryz.f4.resultTypes.toList).any (Tryz.prog.veiledRec ·))) = true := by kernel_rfl
theorem closed31 : (Rows.tallyPartsRow.veiledFits Tryz.prog Tryz.f4.params.toList (Tryz.f4.params.toList ++ (OpenSpec.ofChange Rows.tallyPartsSpec).bare.plain.varTypes Tryz.prog ++ Tryz.f4.resultTypes.toList)) = true := by kernel_rfl
theorem closed : joinedFacts Tryz.prog 4 Tryz.f4 (OpenSpec.ofChange Rows.tallyPartsSpec).bare Rows.tallyPartsRow = true := by
  unfold joinedFacts
  rw [closed0, closed1, closed2, closed3, closed4, closed5, closed6, closed7, closed8, closed9, closed10, closed11, closed12, closed13, closed14, closed15, closed16, closed17, closed18, closed19, closed20, closed21, closed22, closed23, closed24, closed25, closed26, closed27, closed29, closed30, closed31]
  kernel_rfl
end Go.Proofs.YteejogoiikmlgaaGreatDoor.tallyParts
