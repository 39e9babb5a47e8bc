/- Proved here: closed facts of the row: types and the rest. Conditions: those of the row Rows.traceImagesRow (its listed variables as laid); none else. -/
import Derived.Test.YtmaknbbijgihgaaGreatDoorRows
import Derived.ClosedOfChecked
import Derived.JoinedCond
import Derived.KernelRfl
set_option linter.all false
namespace Go.Proofs.YtmaknbbijgihgaaGreatDoor
set_option maxRecDepth 1000000
theorem cl_rest : (Tryz.prog.globals.all (fun g => decide (g.type < Tryz.prog.types.size)) && Tryz.prog.funcs.all (fun f => f.params.all fun t => decide (t < Tryz.prog.types.size))) = true := by kernel_rfl
theorem cl_types : Tryz.prog.types = Tryz.src.types := by kernel_rfl
theorem cl_all : ClosedOfChecked.AllSpec Tryz.prog := ClosedOfChecked.allSpec_of Tryz.wellFormed cl_types
theorem cl_laidOut : laidOutB Tryz.prog = true := ClosedOfChecked.laidOutB_of cl_all cl_rest
theorem cl_maps : mapsRowed Tryz.prog = true := ClosedOfChecked.mapsRowed_of cl_all
theorem cl_wf : Rows.traceImagesRow.wf (OpenSpec.ofChange Rows.traceImagesSpec) = true := by kernel_rfl
theorem cl_params : Tryz.f3.params.all (Tryz.prog.readableRec ·) = true := by kernel_rfl
theorem cl_tie : namedTie Tryz.prog Rows.traceImagesRow.named Rows.traceImagesSpec.vars = true := by kernel_rfl
theorem cl_stops : Tryz.prog.stops = [] := by kernel_rfl
theorem cl_knobs : Tryz.prog.stopKnobs = [] := by kernel_rfl
noncomputable abbrev cTs : List TypeId := Tryz.f3.params.toList ++ Rows.traceImagesSpec.plain.varTypes Tryz.prog
theorem cl_mapsRec : (Rows.traceImagesRow.maps == cTs.any (Tryz.prog.mapsRec ·)) = true := by kernel_rfl
theorem cl_ifaces : (Rows.traceImagesRow.ifaces == cTs.any (Tryz.prog.ifacesRec ·)) = true := by kernel_rfl
theorem cl_mapsOut : (Rows.traceImagesRow.mapsOut == Tryz.prog.mapsAmong Tryz.f3.resultTypes.toList) = true := by kernel_rfl
theorem cl_loops : (Rows.traceImagesRow.loops == cTs.any (Tryz.prog.loopsFrom ·)) = true := by kernel_rfl
theorem cl_wide : (Rows.traceImagesRow.wideKeys == (cTs ++ Tryz.f3.resultTypes.toList).any (Tryz.prog.wideKeysFrom ·)) = true := by kernel_rfl
theorem cl_vars : Rows.traceImagesSpec.vars.all (Tryz.prog.varReadable ·) = true := by kernel_rfl
theorem cl_results : Tryz.f3.resultTypes.all (fun t => Tryz.prog.readableRec t && decide (t < Tryz.prog.types.size)) = true := by kernel_rfl
theorem cl_ifacesOut : (Rows.traceImagesRow.ifacesOut == Tryz.f3.resultTypes.toList.any (Tryz.prog.ifacesRec ·)) = true := by kernel_rfl
theorem cl_loopsOut : (Rows.traceImagesRow.loopsOut == Tryz.f3.resultTypes.toList.any (Tryz.prog.loopsFrom ·)) = true := by kernel_rfl
theorem cl_plain : (Rows.traceImagesRow.plainKeys == Tryz.prog.plainKeys) = true := by kernel_rfl
theorem cl_heard : Tryz.prog.stopsHeard = true := by kernel_rfl
theorem cl_enter : Tryz.prog.mayEnter = true := by kernel_rfl
theorem cl_lifted : (Rows.traceImagesRow.lifted == Tryz.prog.liftsFinal) = true := by kernel_rfl
theorem cl_make : (Tryz.prog.make == some Rows.traceImagesRow.make) = true := by kernel_rfl
theorem cl_kinds : (Rows.traceImagesRow.kinds == (if Rows.traceImagesRow.domain.isEmpty then [] else Tryz.f3.params.toList.map fun t => match Tryz.prog.underlying t with | some (.int k) => some k | _ => none)) = true := by kernel_rfl
theorem cl_pinned : (Rows.traceImagesRow.pinned == Rows.traceImagesRow.pinnedBy) = true := by kernel_rfl
theorem cl_veiled : (Rows.traceImagesRow.veiled == (cTs ++ Tryz.f3.resultTypes.toList).any (Tryz.prog.veiledRec ·)) = true := by kernel_rfl
theorem cl_veiledFits : Rows.traceImagesRow.veiledFits Tryz.prog Tryz.f3.params.toList (cTs ++ Tryz.f3.resultTypes.toList) = true := by kernel_rfl
end Go.Proofs.YtmaknbbijgihgaaGreatDoor
