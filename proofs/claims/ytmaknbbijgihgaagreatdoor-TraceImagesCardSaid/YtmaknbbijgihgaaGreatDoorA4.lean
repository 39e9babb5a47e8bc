/- Proved here: the two calls of image.Diff in the run of awake. Conditions: those of the row Rows.traceImagesRow (its listed variables as laid); none else. -/
import Derived.Test.YtmaknbbijgihgaaGreatDoorA2
set_option linter.all false
namespace Go.Proofs.YtmaknbbijgihgaaGreatDoor
open Go.Shadow
set_option maxRecDepth 1000000 in
theorem runD : gives (.tup [.nilsl, .int .i64 (.ofNat 0)]) ((run Tryz.prog know22 100000).call 58 [.agg zeros, .agg zeros] (laid 11 [])) = true := by kernel_rfl
set_option maxRecDepth 1000000 in
theorem runE : givesNew 91 putB 67 1 1 (.ofNat 0) ((run Tryz.prog know22 100000).call 58 [.agg zeros, .agg imageB] (laid 11 [])) = true := by kernel_rfl
end Go.Proofs.YtmaknbbijgihgaaGreatDoor
