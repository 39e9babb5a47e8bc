/- Proved here: the tie: the run of gosem.cut.vars, and the tie itself. Conditions: those of the row Rows.traceImagesRow (its listed variables as laid); none else. -/
import Derived.Test.YtmaknbbijgihgaaGreatDoorT2
set_option linter.all false
namespace Go.Proofs.YtmaknbbijgihgaaGreatDoor
open Go
set_option maxRecDepth 1000000
noncomputable def leavesAt (P : Program) (g : FuncId) (n fuel M : Nat) (laid : List (String × DataW Unit)) (os : Os) (tape : Tape) : Option (List (String × DataW Unit) × List (DataW (List UInt8))) :=
  match runN P n (Machine.entering P (World.unlaid P os) tape g ⟨#[], #[], []⟩) with
  | .ended (.done _) w =>
    (DataW.laidRun P w.memory fuel ((laid.filter fun x => x.2.handleName?.isNone).map (·.1))).bind fun x =>
      if nodupBits M x.2 0 && laidRowsB P w.memory x.2 && (laid.filter fun x => x.2.handleName?.isSome && x.2.funcsIn?.isNone).all (handleAtB P w.memory)
      then (funcsRun P w.memory fuel ((funcsListed laid).map (·.1))).map fun y => (x.1, y) else none
  | _ => none
theorem leavesAt_eq (P : Program) (n fuel M : Nat) (laid : List (String × DataW Unit)) (os : Os) (tape : Tape) : doorLeaves P n fuel M laid os tape = leavesAt P (varsId P) n fuel M laid os tape := rfl
theorem tw7a (os : Os) (tape : Tape) : leavesAt Tryz.prog 786 400 8 65 laidT os tape = some (laidT.filter fun x => x.2.handleName?.isNone, (funcsListed laidT).map (·.2.funcsOut)) := by kernel_rfl
theorem tw7 (os : Os) (tape : Tape) : doorLeaves Tryz.prog 400 8 65 laidT os tape = some (laidT.filter fun x => x.2.handleName?.isNone, (funcsListed laidT).map (·.2.funcsOut)) := by
  rw [leavesAt_eq, tid]; exact tw7a os tape
theorem tieT : Tryz.prog.laidByTextLater laidT [.data, .data, .data, .sentinel, .sentinel, .mapped, .mapped, .mappedDeep, .widerDeep] true :=
  Program.laidByTextLater_by_one 400 8 65 tw1 tw2 tw3 tw4 tw5b tw6 tw7
end Go.Proofs.YtmaknbbijgihgaaGreatDoor
