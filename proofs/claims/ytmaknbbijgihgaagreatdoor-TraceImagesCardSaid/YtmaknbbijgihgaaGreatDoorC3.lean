/- Proved here: closed facts of the row: the variables named. Conditions: those of the row Rows.traceImagesRow (its listed variables as laid); none else. -/
import Derived.Test.YtmaknbbijgihgaaGreatDoorC2
set_option linter.all false
namespace Go.Proofs.YtmaknbbijgihgaaGreatDoor
set_option maxRecDepth 1000000
theorem on_named : varsNamedOn Tryz.prog closure3 = Rows.traceImagesRow.named := by kernel_rfl
end Go.Proofs.YtmaknbbijgihgaaGreatDoor
