/- Proved here: contracts: moves and entries compared. Conditions: those of the row Rows.traceImagesRow (its listed variables as laid); none else. -/
import Derived.Test.YtmaknbbijgihgaaGreatDoorW6
set_option linter.all false
namespace Go.Proofs.YtmaknbbijgihgaaGreatDoor
open Go.RowKit
set_option maxHeartbeats 10000000 in
set_option maxRecDepth 100000 in
theorem sameK_0 {kind n cost j0 j1 j2 j3 err mode fault kind' n' cost' j0' j1' j2' j3' err' mode' fault' : Int} {puts puts2 puts' puts2' : List PD} {v1 v2 u1 u2 : Value} {w : World} (hp1 : PutsAt w v1 puts) (hp2 : PutsAt w v2 puts2) (hq1 : PutsAt w u1 puts') (hq2 : PutsAt w u2 puts2') (k1 : ((kind == kind')) = false) :
    Calls Tryz.prog 12 #[.agg #[.int .i64 kind, .int .i64 n, .int .i64 cost, v1, .int .i64 j0, .int .i64 j1, .int .i64 j2, .int .i64 j3, .int .i64 err, .int .i64 mode, .int .i64 fault, v2], .agg #[.int .i64 kind', .int .i64 n', .int .i64 cost', u1, .int .i64 j0', .int .i64 j1', .int .i64 j2', .int .i64 j3', .int .i64 err', .int .i64 mode', .int .i64 fault', u2]] w (BoolPost false w) := by
  go_enter Tryz.func12, Tryz.ntmps12
  go_wp2_with (first | (go_at_call 27; first | ((with_reducible refine (equal27 (v := v1) (u := u1) (hp1.below (alloc2_below _ _ _) (Nat.le_refl _)) (hq1.below (alloc2_below _ _ _) (Nat.le_refl _))).mono ?_); rintro e' w1 ⟨rfl, hb⟩; obtain ⟨hbc, hbf⟩ := bcell hb) | ((with_reducible refine (equal27 (v := v2) (u := u2) (hp2.below ((alloc2_below _ _ _).trans (hb.mono (by simp; omega))) (Nat.le_refl _)) (hq2.below ((alloc2_below _ _ _).trans (hb.mono (by simp; omega))) (Nat.le_refl _))).mono ?_); rintro e' w2 ⟨rfl, hb3⟩)))
  go_ret
  exact ⟨rfl, alloc2_below _ _ _⟩
set_option maxHeartbeats 10000000 in
set_option maxRecDepth 100000 in
theorem sameK_1 {kind n cost j0 j1 j2 j3 err mode fault kind' n' cost' j0' j1' j2' j3' err' mode' fault' : Int} {puts puts2 puts' puts2' : List PD} {v1 v2 u1 u2 : Value} {w : World} (hp1 : PutsAt w v1 puts) (hp2 : PutsAt w v2 puts2) (hq1 : PutsAt w u1 puts') (hq2 : PutsAt w u2 puts2') (k1 : ((kind == kind')) = true) (k2 : ((n == n')) = false) :
    Calls Tryz.prog 12 #[.agg #[.int .i64 kind, .int .i64 n, .int .i64 cost, v1, .int .i64 j0, .int .i64 j1, .int .i64 j2, .int .i64 j3, .int .i64 err, .int .i64 mode, .int .i64 fault, v2], .agg #[.int .i64 kind', .int .i64 n', .int .i64 cost', u1, .int .i64 j0', .int .i64 j1', .int .i64 j2', .int .i64 j3', .int .i64 err', .int .i64 mode', .int .i64 fault', u2]] w (BoolPost false w) := by
  go_enter Tryz.func12, Tryz.ntmps12
  go_wp2_with (first | (go_at_call 27; first | ((with_reducible refine (equal27 (v := v1) (u := u1) (hp1.below (alloc2_below _ _ _) (Nat.le_refl _)) (hq1.below (alloc2_below _ _ _) (Nat.le_refl _))).mono ?_); rintro e' w1 ⟨rfl, hb⟩; obtain ⟨hbc, hbf⟩ := bcell hb) | ((with_reducible refine (equal27 (v := v2) (u := u2) (hp2.below ((alloc2_below _ _ _).trans (hb.mono (by simp; omega))) (Nat.le_refl _)) (hq2.below ((alloc2_below _ _ _).trans (hb.mono (by simp; omega))) (Nat.le_refl _))).mono ?_); rintro e' w2 ⟨rfl, hb3⟩)))
  go_ret
  exact ⟨rfl, alloc2_below _ _ _⟩
set_option maxHeartbeats 10000000 in
set_option maxRecDepth 100000 in
theorem sameK_2 {kind n cost j0 j1 j2 j3 err mode fault kind' n' cost' j0' j1' j2' j3' err' mode' fault' : Int} {puts puts2 puts' puts2' : List PD} {v1 v2 u1 u2 : Value} {w : World} (hp1 : PutsAt w v1 puts) (hp2 : PutsAt w v2 puts2) (hq1 : PutsAt w u1 puts') (hq2 : PutsAt w u2 puts2') (k1 : ((kind == kind')) = true) (k2 : ((n == n')) = true) (k3 : ((cost == cost')) = false) :
    Calls Tryz.prog 12 #[.agg #[.int .i64 kind, .int .i64 n, .int .i64 cost, v1, .int .i64 j0, .int .i64 j1, .int .i64 j2, .int .i64 j3, .int .i64 err, .int .i64 mode, .int .i64 fault, v2], .agg #[.int .i64 kind', .int .i64 n', .int .i64 cost', u1, .int .i64 j0', .int .i64 j1', .int .i64 j2', .int .i64 j3', .int .i64 err', .int .i64 mode', .int .i64 fault', u2]] w (BoolPost false w) := by
  go_enter Tryz.func12, Tryz.ntmps12
  go_wp2_with (first | (go_at_call 27; first | ((with_reducible refine (equal27 (v := v1) (u := u1) (hp1.below (alloc2_below _ _ _) (Nat.le_refl _)) (hq1.below (alloc2_below _ _ _) (Nat.le_refl _))).mono ?_); rintro e' w1 ⟨rfl, hb⟩; obtain ⟨hbc, hbf⟩ := bcell hb) | ((with_reducible refine (equal27 (v := v2) (u := u2) (hp2.below ((alloc2_below _ _ _).trans (hb.mono (by simp; omega))) (Nat.le_refl _)) (hq2.below ((alloc2_below _ _ _).trans (hb.mono (by simp; omega))) (Nat.le_refl _))).mono ?_); rintro e' w2 ⟨rfl, hb3⟩)))
  go_ret
  exact ⟨rfl, alloc2_below _ _ _⟩
set_option maxHeartbeats 10000000 in
set_option maxRecDepth 100000 in
theorem sameK_3 {kind n cost j0 j1 j2 j3 err mode fault kind' n' cost' j0' j1' j2' j3' err' mode' fault' : Int} {puts puts2 puts' puts2' : List PD} {v1 v2 u1 u2 : Value} {w : World} (hp1 : PutsAt w v1 puts) (hp2 : PutsAt w v2 puts2) (hq1 : PutsAt w u1 puts') (hq2 : PutsAt w u2 puts2') (k1 : ((kind == kind')) = true) (k2 : ((n == n')) = true) (k3 : ((cost == cost')) = true) (k4 : (decide (puts = puts')) = false) :
    Calls Tryz.prog 12 #[.agg #[.int .i64 kind, .int .i64 n, .int .i64 cost, v1, .int .i64 j0, .int .i64 j1, .int .i64 j2, .int .i64 j3, .int .i64 err, .int .i64 mode, .int .i64 fault, v2], .agg #[.int .i64 kind', .int .i64 n', .int .i64 cost', u1, .int .i64 j0', .int .i64 j1', .int .i64 j2', .int .i64 j3', .int .i64 err', .int .i64 mode', .int .i64 fault', u2]] w (BoolPost false w) := by
  go_enter Tryz.func12, Tryz.ntmps12
  go_wp2_with (first | (go_at_call 27; first | ((with_reducible refine (equal27 (v := v1) (u := u1) (hp1.below (alloc2_below _ _ _) (Nat.le_refl _)) (hq1.below (alloc2_below _ _ _) (Nat.le_refl _))).mono ?_); rintro e' w1 ⟨rfl, hb⟩; obtain ⟨hbc, hbf⟩ := bcell hb) | ((with_reducible refine (equal27 (v := v2) (u := u2) (hp2.below ((alloc2_below _ _ _).trans (hb.mono (by simp; omega))) (Nat.le_refl _)) (hq2.below ((alloc2_below _ _ _).trans (hb.mono (by simp; omega))) (Nat.le_refl _))).mono ?_); rintro e' w2 ⟨rfl, hb3⟩)))
  go_ret
  exact ⟨rfl, (alloc2_below _ _ _).trans (hb.mono (by simp; omega))⟩
set_option maxHeartbeats 10000000 in
set_option maxRecDepth 100000 in
theorem sameK_4 {kind n cost j0 j1 j2 j3 err mode fault kind' n' cost' j0' j1' j2' j3' err' mode' fault' : Int} {puts puts2 puts' puts2' : List PD} {v1 v2 u1 u2 : Value} {w : World} (hp1 : PutsAt w v1 puts) (hp2 : PutsAt w v2 puts2) (hq1 : PutsAt w u1 puts') (hq2 : PutsAt w u2 puts2') (k1 : ((kind == kind')) = true) (k2 : ((n == n')) = true) (k3 : ((cost == cost')) = true) (k4 : (decide (puts = puts')) = true) (k5 : (decide (j0 = j0' ∧ j1 = j1' ∧ j2 = j2' ∧ j3 = j3')) = false) :
    Calls Tryz.prog 12 #[.agg #[.int .i64 kind, .int .i64 n, .int .i64 cost, v1, .int .i64 j0, .int .i64 j1, .int .i64 j2, .int .i64 j3, .int .i64 err, .int .i64 mode, .int .i64 fault, v2], .agg #[.int .i64 kind', .int .i64 n', .int .i64 cost', u1, .int .i64 j0', .int .i64 j1', .int .i64 j2', .int .i64 j3', .int .i64 err', .int .i64 mode', .int .i64 fault', u2]] w (BoolPost false w) := by
  have hj : ∀ W : World, (binOp .eql 39 (.agg #[.int .i64 j0, .int .i64 j1, .int .i64 j2, .int .i64 j3]) (.agg #[.int .i64 j0', .int .i64 j1', .int .i64 j2', .int .i64 j3'])).run Tryz.prog W = .ok (.bool false) W := fun W => by rw [eql39, k5]
  clear k5
  go_enter Tryz.func12, Tryz.ntmps12
  go_wp2_with (first | (go_at_call 27; first | ((with_reducible refine (equal27 (v := v1) (u := u1) (hp1.below (alloc2_below _ _ _) (Nat.le_refl _)) (hq1.below (alloc2_below _ _ _) (Nat.le_refl _))).mono ?_); rintro e' w1 ⟨rfl, hb⟩; obtain ⟨hbc, hbf⟩ := bcell hb) | ((with_reducible refine (equal27 (v := v2) (u := u2) (hp2.below ((alloc2_below _ _ _).trans (hb.mono (by simp; omega))) (Nat.le_refl _)) (hq2.below ((alloc2_below _ _ _).trans (hb.mono (by simp; omega))) (Nat.le_refl _))).mono ?_); rintro e' w2 ⟨rfl, hb3⟩)))
  go_ret
  exact ⟨rfl, (alloc2_below _ _ _).trans (hb.mono (by simp; omega))⟩
end Go.Proofs.YtmaknbbijgihgaaGreatDoor
namespace Go.Proofs.YtmaknbbijgihgaaGreatDoor
open Go.RowKit
set_option maxHeartbeats 10000000 in
set_option maxRecDepth 100000 in
theorem sameK_5 {kind n cost j0 j1 j2 j3 err mode fault kind' n' cost' j0' j1' j2' j3' err' mode' fault' : Int} {puts puts2 puts' puts2' : List PD} {v1 v2 u1 u2 : Value} {w : World} (hp1 : PutsAt w v1 puts) (hp2 : PutsAt w v2 puts2) (hq1 : PutsAt w u1 puts') (hq2 : PutsAt w u2 puts2') (k1 : ((kind == kind')) = true) (k2 : ((n == n')) = true) (k3 : ((cost == cost')) = true) (k4 : (decide (puts = puts')) = true) (k5 : (decide (j0 = j0' ∧ j1 = j1' ∧ j2 = j2' ∧ j3 = j3')) = true) (k6 : ((err == err')) = false) :
    Calls Tryz.prog 12 #[.agg #[.int .i64 kind, .int .i64 n, .int .i64 cost, v1, .int .i64 j0, .int .i64 j1, .int .i64 j2, .int .i64 j3, .int .i64 err, .int .i64 mode, .int .i64 fault, v2], .agg #[.int .i64 kind', .int .i64 n', .int .i64 cost', u1, .int .i64 j0', .int .i64 j1', .int .i64 j2', .int .i64 j3', .int .i64 err', .int .i64 mode', .int .i64 fault', u2]] w (BoolPost false w) := by
  have hj : ∀ W : World, (binOp .eql 39 (.agg #[.int .i64 j0, .int .i64 j1, .int .i64 j2, .int .i64 j3]) (.agg #[.int .i64 j0', .int .i64 j1', .int .i64 j2', .int .i64 j3'])).run Tryz.prog W = .ok (.bool true) W := fun W => by rw [eql39, k5]
  clear k5
  go_enter Tryz.func12, Tryz.ntmps12
  go_wp2_with (first | (go_at_call 27; first | ((with_reducible refine (equal27 (v := v1) (u := u1) (hp1.below (alloc2_below _ _ _) (Nat.le_refl _)) (hq1.below (alloc2_below _ _ _) (Nat.le_refl _))).mono ?_); rintro e' w1 ⟨rfl, hb⟩; obtain ⟨hbc, hbf⟩ := bcell hb) | ((with_reducible refine (equal27 (v := v2) (u := u2) (hp2.below ((alloc2_below _ _ _).trans (hb.mono (by simp; omega))) (Nat.le_refl _)) (hq2.below ((alloc2_below _ _ _).trans (hb.mono (by simp; omega))) (Nat.le_refl _))).mono ?_); rintro e' w2 ⟨rfl, hb3⟩)))
  go_ret
  exact ⟨rfl, (alloc2_below _ _ _).trans (hb.mono (by simp; omega))⟩
set_option maxHeartbeats 10000000 in
set_option maxRecDepth 100000 in
theorem sameK_6 {kind n cost j0 j1 j2 j3 err mode fault kind' n' cost' j0' j1' j2' j3' err' mode' fault' : Int} {puts puts2 puts' puts2' : List PD} {v1 v2 u1 u2 : Value} {w : World} (hp1 : PutsAt w v1 puts) (hp2 : PutsAt w v2 puts2) (hq1 : PutsAt w u1 puts') (hq2 : PutsAt w u2 puts2') (k1 : ((kind == kind')) = true) (k2 : ((n == n')) = true) (k3 : ((cost == cost')) = true) (k4 : (decide (puts = puts')) = true) (k5 : (decide (j0 = j0' ∧ j1 = j1' ∧ j2 = j2' ∧ j3 = j3')) = true) (k6 : ((err == err')) = true) (k7 : ((mode == mode')) = false) :
    Calls Tryz.prog 12 #[.agg #[.int .i64 kind, .int .i64 n, .int .i64 cost, v1, .int .i64 j0, .int .i64 j1, .int .i64 j2, .int .i64 j3, .int .i64 err, .int .i64 mode, .int .i64 fault, v2], .agg #[.int .i64 kind', .int .i64 n', .int .i64 cost', u1, .int .i64 j0', .int .i64 j1', .int .i64 j2', .int .i64 j3', .int .i64 err', .int .i64 mode', .int .i64 fault', u2]] w (BoolPost false w) := by
  have hj : ∀ W : World, (binOp .eql 39 (.agg #[.int .i64 j0, .int .i64 j1, .int .i64 j2, .int .i64 j3]) (.agg #[.int .i64 j0', .int .i64 j1', .int .i64 j2', .int .i64 j3'])).run Tryz.prog W = .ok (.bool true) W := fun W => by rw [eql39, k5]
  clear k5
  go_enter Tryz.func12, Tryz.ntmps12
  go_wp2_with (first | (go_at_call 27; first | ((with_reducible refine (equal27 (v := v1) (u := u1) (hp1.below (alloc2_below _ _ _) (Nat.le_refl _)) (hq1.below (alloc2_below _ _ _) (Nat.le_refl _))).mono ?_); rintro e' w1 ⟨rfl, hb⟩; obtain ⟨hbc, hbf⟩ := bcell hb) | ((with_reducible refine (equal27 (v := v2) (u := u2) (hp2.below ((alloc2_below _ _ _).trans (hb.mono (by simp; omega))) (Nat.le_refl _)) (hq2.below ((alloc2_below _ _ _).trans (hb.mono (by simp; omega))) (Nat.le_refl _))).mono ?_); rintro e' w2 ⟨rfl, hb3⟩)))
  go_ret
  exact ⟨rfl, (alloc2_below _ _ _).trans (hb.mono (by simp; omega))⟩
end Go.Proofs.YtmaknbbijgihgaaGreatDoor
namespace Go.Proofs.YtmaknbbijgihgaaGreatDoor
open Go.RowKit
set_option maxHeartbeats 10000000 in
set_option maxRecDepth 100000 in
theorem sameK_7 {kind n cost j0 j1 j2 j3 err mode fault kind' n' cost' j0' j1' j2' j3' err' mode' fault' : Int} {puts puts2 puts' puts2' : List PD} {v1 v2 u1 u2 : Value} {w : World} (hp1 : PutsAt w v1 puts) (hp2 : PutsAt w v2 puts2) (hq1 : PutsAt w u1 puts') (hq2 : PutsAt w u2 puts2') (k1 : ((kind == kind')) = true) (k2 : ((n == n')) = true) (k3 : ((cost == cost')) = true) (k4 : (decide (puts = puts')) = true) (k5 : (decide (j0 = j0' ∧ j1 = j1' ∧ j2 = j2' ∧ j3 = j3')) = true) (k6 : ((err == err')) = true) (k7 : ((mode == mode')) = true) (k8 : ((fault == fault')) = false) :
    Calls Tryz.prog 12 #[.agg #[.int .i64 kind, .int .i64 n, .int .i64 cost, v1, .int .i64 j0, .int .i64 j1, .int .i64 j2, .int .i64 j3, .int .i64 err, .int .i64 mode, .int .i64 fault, v2], .agg #[.int .i64 kind', .int .i64 n', .int .i64 cost', u1, .int .i64 j0', .int .i64 j1', .int .i64 j2', .int .i64 j3', .int .i64 err', .int .i64 mode', .int .i64 fault', u2]] w (BoolPost false w) := by
  have hj : ∀ W : World, (binOp .eql 39 (.agg #[.int .i64 j0, .int .i64 j1, .int .i64 j2, .int .i64 j3]) (.agg #[.int .i64 j0', .int .i64 j1', .int .i64 j2', .int .i64 j3'])).run Tryz.prog W = .ok (.bool true) W := fun W => by rw [eql39, k5]
  clear k5
  go_enter Tryz.func12, Tryz.ntmps12
  go_wp2_with (first | (go_at_call 27; first | ((with_reducible refine (equal27 (v := v1) (u := u1) (hp1.below (alloc2_below _ _ _) (Nat.le_refl _)) (hq1.below (alloc2_below _ _ _) (Nat.le_refl _))).mono ?_); rintro e' w1 ⟨rfl, hb⟩; obtain ⟨hbc, hbf⟩ := bcell hb) | ((with_reducible refine (equal27 (v := v2) (u := u2) (hp2.below ((alloc2_below _ _ _).trans (hb.mono (by simp; omega))) (Nat.le_refl _)) (hq2.below ((alloc2_below _ _ _).trans (hb.mono (by simp; omega))) (Nat.le_refl _))).mono ?_); rintro e' w2 ⟨rfl, hb3⟩)))
  go_ret
  exact ⟨rfl, (alloc2_below _ _ _).trans (hb.mono (by simp; omega))⟩
set_option maxHeartbeats 10000000 in
set_option maxRecDepth 100000 in
theorem sameK_8 {kind n cost j0 j1 j2 j3 err mode fault kind' n' cost' j0' j1' j2' j3' err' mode' fault' : Int} {puts puts2 puts' puts2' : List PD} {v1 v2 u1 u2 : Value} {w : World} (hp1 : PutsAt w v1 puts) (hp2 : PutsAt w v2 puts2) (hq1 : PutsAt w u1 puts') (hq2 : PutsAt w u2 puts2') (k1 : ((kind == kind')) = true) (k2 : ((n == n')) = true) (k3 : ((cost == cost')) = true) (k4 : (decide (puts = puts')) = true) (k5 : (decide (j0 = j0' ∧ j1 = j1' ∧ j2 = j2' ∧ j3 = j3')) = true) (k6 : ((err == err')) = true) (k7 : ((mode == mode')) = true) (k8 : ((fault == fault')) = true) (k9 : (decide (puts2 = puts2')) = false) :
    Calls Tryz.prog 12 #[.agg #[.int .i64 kind, .int .i64 n, .int .i64 cost, v1, .int .i64 j0, .int .i64 j1, .int .i64 j2, .int .i64 j3, .int .i64 err, .int .i64 mode, .int .i64 fault, v2], .agg #[.int .i64 kind', .int .i64 n', .int .i64 cost', u1, .int .i64 j0', .int .i64 j1', .int .i64 j2', .int .i64 j3', .int .i64 err', .int .i64 mode', .int .i64 fault', u2]] w (BoolPost false w) := by
  have hj : ∀ W : World, (binOp .eql 39 (.agg #[.int .i64 j0, .int .i64 j1, .int .i64 j2, .int .i64 j3]) (.agg #[.int .i64 j0', .int .i64 j1', .int .i64 j2', .int .i64 j3'])).run Tryz.prog W = .ok (.bool true) W := fun W => by rw [eql39, k5]
  clear k5
  go_enter Tryz.func12, Tryz.ntmps12
  go_wp2_with (first | (go_at_call 27; first | ((with_reducible refine (equal27 (v := v1) (u := u1) (hp1.below (alloc2_below _ _ _) (Nat.le_refl _)) (hq1.below (alloc2_below _ _ _) (Nat.le_refl _))).mono ?_); rintro e' w1 ⟨rfl, hb⟩; obtain ⟨hbc, hbf⟩ := bcell hb) | ((with_reducible refine (equal27 (v := v2) (u := u2) (hp2.below ((alloc2_below _ _ _).trans (hb.mono (by simp; omega))) (Nat.le_refl _)) (hq2.below ((alloc2_below _ _ _).trans (hb.mono (by simp; omega))) (Nat.le_refl _))).mono ?_); rintro e' w2 ⟨rfl, hb3⟩)))
  go_ret
  exact ⟨rfl, ((alloc2_below _ _ _).trans (hb.mono (by simp; omega))).trans (hb3.mono (by have := hb.size; simp at this; omega))⟩
end Go.Proofs.YtmaknbbijgihgaaGreatDoor
namespace Go.Proofs.YtmaknbbijgihgaaGreatDoor
open Go.RowKit
set_option maxHeartbeats 10000000 in
set_option maxRecDepth 100000 in
theorem sameK_9 {kind n cost j0 j1 j2 j3 err mode fault kind' n' cost' j0' j1' j2' j3' err' mode' fault' : Int} {puts puts2 puts' puts2' : List PD} {v1 v2 u1 u2 : Value} {w : World} (hp1 : PutsAt w v1 puts) (hp2 : PutsAt w v2 puts2) (hq1 : PutsAt w u1 puts') (hq2 : PutsAt w u2 puts2') (k1 : ((kind == kind')) = true) (k2 : ((n == n')) = true) (k3 : ((cost == cost')) = true) (k4 : (decide (puts = puts')) = true) (k5 : (decide (j0 = j0' ∧ j1 = j1' ∧ j2 = j2' ∧ j3 = j3')) = true) (k6 : ((err == err')) = true) (k7 : ((mode == mode')) = true) (k8 : ((fault == fault')) = true) (k9 : (decide (puts2 = puts2')) = true) :
    Calls Tryz.prog 12 #[.agg #[.int .i64 kind, .int .i64 n, .int .i64 cost, v1, .int .i64 j0, .int .i64 j1, .int .i64 j2, .int .i64 j3, .int .i64 err, .int .i64 mode, .int .i64 fault, v2], .agg #[.int .i64 kind', .int .i64 n', .int .i64 cost', u1, .int .i64 j0', .int .i64 j1', .int .i64 j2', .int .i64 j3', .int .i64 err', .int .i64 mode', .int .i64 fault', u2]] w (BoolPost true w) := by
  have hj : ∀ W : World, (binOp .eql 39 (.agg #[.int .i64 j0, .int .i64 j1, .int .i64 j2, .int .i64 j3]) (.agg #[.int .i64 j0', .int .i64 j1', .int .i64 j2', .int .i64 j3'])).run Tryz.prog W = .ok (.bool true) W := fun W => by rw [eql39, k5]
  clear k5
  go_enter Tryz.func12, Tryz.ntmps12
  go_wp2_with (first | (go_at_call 27; first | ((with_reducible refine (equal27 (v := v1) (u := u1) (hp1.below (alloc2_below _ _ _) (Nat.le_refl _)) (hq1.below (alloc2_below _ _ _) (Nat.le_refl _))).mono ?_); rintro e' w1 ⟨rfl, hb⟩; obtain ⟨hbc, hbf⟩ := bcell hb) | ((with_reducible refine (equal27 (v := v2) (u := u2) (hp2.below ((alloc2_below _ _ _).trans (hb.mono (by simp; omega))) (Nat.le_refl _)) (hq2.below ((alloc2_below _ _ _).trans (hb.mono (by simp; omega))) (Nat.le_refl _))).mono ?_); rintro e' w2 ⟨rfl, hb3⟩)))
  go_ret
  exact ⟨rfl, ((alloc2_below _ _ _).trans (hb.mono (by simp; omega))).trans (hb3.mono (by have := hb.size; simp at this; omega))⟩
end Go.Proofs.YtmaknbbijgihgaaGreatDoor
namespace Go.Proofs.YtmaknbbijgihgaaGreatDoor
open Go.RowKit
theorem same_any {e f : ED} {v1 v2 u1 u2 : Value} {w : World} (hp1 : PutsAt w v1 e.puts) (hp2 : PutsAt w v2 e.puts2) (hq1 : PutsAt w u1 f.puts) (hq2 : PutsAt w u2 f.puts2) :
    Calls Tryz.prog 12 #[e.val v1 v2, f.val u1 u2] w (BoolPost (decide (e = f)) w) := by
  obtain ⟨kind, n, cost, puts, j0, j1, j2, j3, err, mode, fault, puts2⟩ := e
  obtain ⟨kind', n', cost', puts', j0', j1', j2', j3', err', mode', fault', puts2'⟩ := f
  unfold ED.val
  simp only at hp1 hp2 hq1 hq2 ⊢
  rcases k1 : (kind == kind') with _ | _
  · have h : decide ((⟨kind, n, cost, puts, j0, j1, j2, j3, err, mode, fault, puts2⟩ : ED) = ⟨kind', n', cost', puts', j0', j1', j2', j3', err', mode', fault', puts2'⟩) = false := by rw [decide_eq_false]; intro hh; cases hh; simp at k1
    rw [h]; exact sameK_0 hp1 hp2 hq1 hq2 k1
  · skip
    rcases k2 : (n == n') with _ | _
    · have h : decide ((⟨kind, n, cost, puts, j0, j1, j2, j3, err, mode, fault, puts2⟩ : ED) = ⟨kind', n', cost', puts', j0', j1', j2', j3', err', mode', fault', puts2'⟩) = false := by rw [decide_eq_false]; intro hh; cases hh; simp at k2
      rw [h]; exact sameK_1 hp1 hp2 hq1 hq2 k1 k2
    · skip
      rcases k3 : (cost == cost') with _ | _
      · have h : decide ((⟨kind, n, cost, puts, j0, j1, j2, j3, err, mode, fault, puts2⟩ : ED) = ⟨kind', n', cost', puts', j0', j1', j2', j3', err', mode', fault', puts2'⟩) = false := by rw [decide_eq_false]; intro hh; cases hh; simp at k3
        rw [h]; exact sameK_2 hp1 hp2 hq1 hq2 k1 k2 k3
      · skip
        rcases k4 : decide (puts = puts') with _ | _
        · have h : decide ((⟨kind, n, cost, puts, j0, j1, j2, j3, err, mode, fault, puts2⟩ : ED) = ⟨kind', n', cost', puts', j0', j1', j2', j3', err', mode', fault', puts2'⟩) = false := by rw [decide_eq_false]; intro hh; cases hh; simp at k4
          rw [h]; exact sameK_3 hp1 hp2 hq1 hq2 k1 k2 k3 k4
        · skip
          rcases k5 : decide (j0 = j0' ∧ j1 = j1' ∧ j2 = j2' ∧ j3 = j3') with _ | _
          · have h : decide ((⟨kind, n, cost, puts, j0, j1, j2, j3, err, mode, fault, puts2⟩ : ED) = ⟨kind', n', cost', puts', j0', j1', j2', j3', err', mode', fault', puts2'⟩) = false := by rw [decide_eq_false]; intro hh; cases hh; simp at k5
            rw [h]; exact sameK_4 hp1 hp2 hq1 hq2 k1 k2 k3 k4 k5
          · skip
            rcases k6 : (err == err') with _ | _
            · have h : decide ((⟨kind, n, cost, puts, j0, j1, j2, j3, err, mode, fault, puts2⟩ : ED) = ⟨kind', n', cost', puts', j0', j1', j2', j3', err', mode', fault', puts2'⟩) = false := by rw [decide_eq_false]; intro hh; cases hh; simp at k6
              rw [h]; exact sameK_5 hp1 hp2 hq1 hq2 k1 k2 k3 k4 k5 k6
            · skip
              rcases k7 : (mode == mode') with _ | _
              · have h : decide ((⟨kind, n, cost, puts, j0, j1, j2, j3, err, mode, fault, puts2⟩ : ED) = ⟨kind', n', cost', puts', j0', j1', j2', j3', err', mode', fault', puts2'⟩) = false := by rw [decide_eq_false]; intro hh; cases hh; simp at k7
                rw [h]; exact sameK_6 hp1 hp2 hq1 hq2 k1 k2 k3 k4 k5 k6 k7
              · skip
                rcases k8 : (fault == fault') with _ | _
                · have h : decide ((⟨kind, n, cost, puts, j0, j1, j2, j3, err, mode, fault, puts2⟩ : ED) = ⟨kind', n', cost', puts', j0', j1', j2', j3', err', mode', fault', puts2'⟩) = false := by rw [decide_eq_false]; intro hh; cases hh; simp at k8
                  rw [h]; exact sameK_7 hp1 hp2 hq1 hq2 k1 k2 k3 k4 k5 k6 k7 k8
                · skip
                  rcases k9 : decide (puts2 = puts2') with _ | _
                  · have h : decide ((⟨kind, n, cost, puts, j0, j1, j2, j3, err, mode, fault, puts2⟩ : ED) = ⟨kind', n', cost', puts', j0', j1', j2', j3', err', mode', fault', puts2'⟩) = false := by rw [decide_eq_false]; intro hh; cases hh; simp at k9
                    rw [h]; exact sameK_8 hp1 hp2 hq1 hq2 k1 k2 k3 k4 k5 k6 k7 k8 k9
                  · skip
                    have h : decide ((⟨kind, n, cost, puts, j0, j1, j2, j3, err, mode, fault, puts2⟩ : ED) = ⟨kind', n', cost', puts', j0', j1', j2', j3', err', mode', fault', puts2'⟩) = true := by
                      rw [decide_eq_true]
                      simp_all
                    rw [h]; exact sameK_9 hp1 hp2 hq1 hq2 k1 k2 k3 k4 k5 k6 k7 k8 k9
end Go.Proofs.YtmaknbbijgihgaaGreatDoor
