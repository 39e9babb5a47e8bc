/- Proved here: closed facts of the row, all. Conditions: those of the row Rows.traceImagesRow (its listed variables as laid); none else. -/
import Derived.Test.YtmaknbbijgihgaaGreatDoorC2
import Derived.Test.YtmaknbbijgihgaaGreatDoorC3
import Derived.Test.YtmaknbbijgihgaaGreatDoorC4
set_option linter.all false
namespace Go.Proofs.YtmaknbbijgihgaaGreatDoor
set_option maxRecDepth 1000000
theorem cl_inPlace : (Rows.traceImagesRow.inPlace == Tryz.prog.inPlace 3) = true := by
  rw [inPlaceOn_eq, cl_closure, on_inPlace]; exact beq_self_eq_true _
theorem unf : Tryz.prog.unfollowed 3 = true := by rw [unfollowedOn_eq, cl_closure]; exact on_unfollowed
theorem cl_unfollowed : (Rows.traceImagesRow.unfollowed == Tryz.prog.unfollowed 3) = true := by rw [unf]; rfl
theorem cl_recurses : (Rows.traceImagesRow.recurses == Tryz.prog.recurses 3) = true := by
  have : Tryz.prog.recurses 3 = true := by unfold Program.recurses; rw [unf, Bool.true_or]
  rw [this]; rfl
theorem cl_named : (Rows.traceImagesRow.named == Tryz.prog.varsNamed 3) = true := by
  rw [varsNamedOn_eq, cl_closure, on_named]; exact beq_self_eq_true _
theorem closedT : joinedFacts Tryz.prog 3 Tryz.f3 Rows.traceImagesSpec Rows.traceImagesRow = true := by
  unfold joinedFacts
  rw [cl_wf, cl_laidOut, cl_maps, cl_params, cl_tie, cl_stops, cl_knobs, cl_inPlace, cl_unfollowed, cl_recurses, cl_named, cl_mapsRec, cl_ifaces, cl_mapsOut, cl_loops, cl_wide, cl_vars, cl_results, cl_ifacesOut, cl_loopsOut, cl_plain, cl_heard, cl_enter, cl_lifted, cl_make, cl_veiled, cl_veiledFits]
  kernel_rfl
end Go.Proofs.YtmaknbbijgihgaaGreatDoor
