/- Proved here: the run of awake, by one evaluation of the executor. Conditions: those of the row Rows.traceImagesRow (its listed variables as laid); none else. -/
import Derived.Test.YtmaknbbijgihgaaGreatDoorA2
set_option linter.all false
namespace Go.Proofs.YtmaknbbijgihgaaGreatDoor
open Go.Shadow
set_option maxRecDepth 1000000 in
theorem runAwake : gives (.bool true) ((run Tryz.prog knowAll 1000000).call 8 [] heap0) = true := by kernel_rfl
end Go.Proofs.YtmaknbbijgihgaaGreatDoor
