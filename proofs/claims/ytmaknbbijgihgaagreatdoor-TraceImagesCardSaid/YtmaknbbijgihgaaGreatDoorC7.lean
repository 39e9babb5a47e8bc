/- Proved here: closed facts of the card: the rest. Conditions: those of the row Rows.traceImagesRow (its listed variables as laid); none else. -/
import Derived.Test.YtmaknbbijgihgaaGreatDoorRows
import GoSem.ClaimSeven
import Derived.KernelRfl
set_option linter.all false
namespace Go.Proofs.YtmaknbbijgihgaaGreatDoor
set_option maxRecDepth 1000000
theorem cl_wfText : Rows.traceImagesRow.wfByText (OpenSpec.ofChange Rows.traceImagesSpec) = true := by kernel_rfl
theorem cl_main : Tryz.prog.mainIs = some (true, "e96f56128e82c9d5152c9763e3d3f9f2b2a10f6c11030d1ce5f6526f8beebf32".toList) := by kernel_rfl
theorem cl_looks : true = Tryz.prog.looks [] := by kernel_rfl
theorem cl_unsafe : Tryz.prog.headLifts.contains "ownunsafe" = false := by kernel_rfl
theorem cl_inst : Tryz.f3.isInstance Tryz.prog Rows.traceImagesRow.origin Rows.traceImagesRow.targs := of_decide_eq_true (by kernel_rfl)
theorem cl_wrap : Tryz.f3.isWrapper Tryz.prog Rows.traceImagesRow.wrapper Rows.traceImagesRow.mainSum := of_decide_eq_true (by kernel_rfl)
end Go.Proofs.YtmaknbbijgihgaaGreatDoor
