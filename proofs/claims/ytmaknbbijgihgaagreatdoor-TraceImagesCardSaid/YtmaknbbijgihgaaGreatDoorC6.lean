/- Proved here: closed facts of the card: the function's number; no go statement. Conditions: those of the row Rows.traceImagesRow (its listed variables as laid); none else. -/
import Derived.Test.YtmaknbbijgihgaaGreatDoorRows
import GoSem.ClaimSeven
import Derived.KernelRfl
set_option linter.all false
namespace Go.Proofs.YtmaknbbijgihgaaGreatDoor
set_option maxRecDepth 1000000
theorem named3 : Tryz.prog.funcNamed Rows.traceImagesRow.func = some 3 := by kernel_rfl
theorem noGoes : Tryz.prog.funcs.any Func.goes = false := by kernel_rfl
end Go.Proofs.YtmaknbbijgihgaaGreatDoor
