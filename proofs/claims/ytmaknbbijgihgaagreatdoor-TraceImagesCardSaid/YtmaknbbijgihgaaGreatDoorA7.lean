/- Proved here: an input that fits the row. Conditions: those of the row Rows.traceImagesRow (its listed variables as laid); none else. -/
import Derived.Test.YtmaknbbijgihgaaGreatDoorA6
import Derived.Test.YtmaknbbijgihgaaGreatDoorT3
import Derived.LaidMore
import Derived.ProofKit
set_option linter.all false
namespace Go.Proofs.YtmaknbbijgihgaaGreatDoor
open Go.RowKit
set_option maxRecDepth 1000000
/-! ### A start: the heap that the variables' initialisers leave -/
theorem laid_eq : Rows.traceImagesRow.laid = laidT := rfl
def LeavesSaid (P : Program) (g : FuncId) (n fuel M : Nat) (laid : List (String × DataW Unit)) (os : Os) (tape : Tape) : Prop := leavesAt P g n fuel M laid os tape = some (laid.filter fun x => x.2.handleName?.isNone, (funcsListed laid).map (·.2.funcsOut))
theorem leaves (os : Os) (tape : Tape) : LeavesSaid Tryz.prog 786 400 8 65 laidT os tape := by
  unfold LeavesSaid
  have t := tw7a os tape
  with_reducible exact t
theorem met_of_leaves {P : Program} {g : FuncId} {n fuel M : Nat} {laid : List (String × DataW Unit)} {os : Os} {tape : Tape}
    (h : LeavesSaid P g n fuel M laid os tape) : laidMetH P laid (varsWorld P n g os tape).memory := by
  unfold LeavesSaid leavesAt at h
  unfold varsWorld
  split at h
  · rename_i v w hr
    rw [hr]
    simp only [Option.bind_eq_some_iff] at h
    obtain ⟨x, hx, d⟩ := h
    split at d
    · rename_i hb
      simp only [Bool.and_eq_true] at hb
      simp only [Option.map_eq_some_iff, Prod.mk.injEq] at d
      obtain ⟨y, hy, e1, e2⟩ := d
      exact laidMetH_of_parts3 (fuel := fuel) (laidMet_of_run (ps := x.2) fuel (by rw [hx, ← e1]) (decide_eq_true (nodupBits_sound hb.1.1).1) hb.1.2) hb.2 (by rw [hy, e2])
    · cases d
  · cases h
def heapOf (b V : World) : World := { b with heap := V.heap }
theorem heapOf_heap (b V : World) : (heapOf b V).heap = V.heap := rfl
theorem heapOf_os (b V : World) : (heapOf b V).os = b.os := rfl
noncomputable def doorW (os : Os) : World := heapOf (World.holding Tryz.prog os ⟨#[], #[], []⟩) (varsWorld Tryz.prog 400 786 os (fun _ _ => 0))
def args0 : Array Value := #[.slice none 0 0, .slice none 0 0, .int .i64 0]
theorem forCall_heap (w : World) (tape : Tape) (args : Array Value) : (w.forCall tape ⟨#[], args, []⟩).memory.heap = w.heap := by
  show Input.heap ⟨#[], args, []⟩ w.heap = w.heap
  rw [Input.heap_fresh rfl]; simp
theorem doorW_heap (os : Os) : (doorW os).heap = (varsWorld Tryz.prog 400 786 os (fun _ _ => 0)).heap := by unfold doorW; exact heapOf_heap _ _
theorem memory_heap (w : World) : w.memory.heap = w.heap := rfl
theorem door_met (os : Os) : laidMetH Tryz.prog laidT ((doorW os).forCall (fun _ _ => 0) ⟨#[], args0, []⟩).memory := by
  have h := met_of_leaves (leaves os (fun _ _ => 0))
  have e := doorW_heap os
  generalize varsWorld Tryz.prog 400 786 os (fun _ _ => 0) = V at h e
  exact laidMetH.of_heap ((memory_heap V).trans (e.symm.trans (forCall_heap (doorW os) (fun _ _ => 0) args0).symm)) h
theorem door_vars (os : Os) : World.variablesRefB Tryz.prog ((doorW os).forCall (fun _ _ => 0) ⟨#[], args0, []⟩) = true := by kernel_rfl
theorem door_rest (os : Os) : (((doorW os).forCall (fun _ _ => 0) ⟨#[], args0, []⟩).heap.toList.drop Tryz.prog.globals.size).take ((begin Tryz.prog (fun _ _ => 0) default).world.heap.size - Tryz.prog.globals.size) =
      (begin Tryz.prog (fun _ _ => 0) default).world.heap.toList.drop Tryz.prog.globals.size := by kernel_rfl
theorem door_ok (os : Os) : Input.okWideB Tryz.prog ((doorW os).forCall (fun _ _ => 0) ⟨#[], args0, []⟩) 3 ⟨#[], args0, []⟩ = true := by kernel_rfl
theorem door_pre {H : Type} (enc : TypeId × Value → H) (os : Os) : Rows.traceImagesSpec.preB enc Tryz.prog Tryz.f3 [] false ((doorW os).forCall (fun _ _ => 0) ⟨#[], args0, []⟩).memory args0 8 = true := by kernel_rfl
theorem door_sized {H : Type} (enc : TypeId × Value → H) (os : Os) : Rows.traceImagesSpec.sizedB enc Tryz.prog Tryz.f3 false ((doorW os).forCall (fun _ _ => 0) ⟨#[], args0, []⟩).memory args0 8 = true := by kernel_rfl
theorem witnessT {H : Type} (enc : TypeId × Value → H) (os : Os) :
    ∃ (w : World) (tape : Tape) (i : Input), w.os = os ∧ (w.forCall tape i).Shaped Tryz.prog ∧ i.vars = [] ∧ Input.okWide Tryz.prog (w.forCall tape i) .any w.heap.size 3 i ∧
      ((Rows.traceImagesSpec.pre enc Tryz.prog Tryz.f3 [] false (w.forCall tape i).memory i.args ∧ laidMetH Tryz.prog Rows.traceImagesRow.laid (w.forCall tape i).memory) ∧ sizedMet enc Tryz.prog Tryz.f3 (OpenSpec.ofChange Rows.traceImagesSpec) false (w.forCall tape i).memory i.args) ∧
      ({ modest := false } : Assume).holds Tryz.prog (lone (Frame.enter Tryz.prog 3 i.args .normal) [] (w.forCall tape i)) :=
  ChangeSpec.witness_shaped (C := Tryz.checked) (X := fun w _ => laidMetH Tryz.prog Rows.traceImagesRow.laid w) false (doorW os) args0 8 rfl (World.shaped_of_RefB (door_vars os) (door_rest os)) (door_ok os) (door_pre enc os) (door_sized enc os) (by rw [laid_eq]; exact door_met os)
end Go.Proofs.YtmaknbbijgihgaaGreatDoor
