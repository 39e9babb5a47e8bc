/- Proved here: contracts: a move is formed (reference). Conditions: those of the row Rows.traceImagesRow (its listed variables as laid); none else. -/
import Derived.Test.YtmaknbbijgihgaaGreatDoorW1
import Derived.Deep.QuietTactic
import Derived.BigQuiet
set_option linter.all false
namespace Go.Proofs.YtmaknbbijgihgaaGreatDoor
open Go.RowKit
set_option maxHeartbeats 400000 in
theorem rMove_1 {n c : Int} {l : List PD} {v : Value} {w : World} (hp : PutsAt w v l) :
    Calls Tryz.prog 30 #[.agg #[.int .i64 1, .int .i64 n, .int .i64 c, v]] w (BoolPost (movOk 1 n c l) w) := by
  obtain ⟨ao, b, off, cap, rfl, hq⟩ := hp
  have hp : PutsAt w (.slice ao l.length cap) l := ⟨ao, b, off, cap, rfl, hq⟩
  clear hq
  rcases h4 : (n == 0) with _ | _
  · have h : movOk 1 n c l = false := by unfold movOk okN okC okP; simp [h4]
    rw [h]; clear h
    go_enter Tryz.func30, Tryz.ntmps30
    go_wp2
    go_quiet (fail)
    go_wp2_with (first | (go_at_call 31; refine (within_any _ _ _ _).mono ?_; rintro e w' ⟨rfl, rfl⟩) | (go_at_call 32; refine (rputs_any (hp.below (below_drewN (alloc_below _ _) _) (Nat.le_refl _))).mono ?_; rintro e w' ⟨rfl, hb⟩; obtain ⟨hbc, hbf⟩ := bcell hb))
    go_ret
    exact ⟨rfl, below_drewN (alloc_below _ _) _⟩
  · skip
    rcases h2 : inR n 0 100000 with _ | _
    · have h : movOk 1 n c l = false := by unfold movOk okN okC okP; simp [h4, h2]
      rw [h]; clear h
      go_enter Tryz.func30, Tryz.ntmps30
      go_wp2
      go_quiet (fail)
      go_wp2_with (first | (go_at_call 31; refine (within_any _ _ _ _).mono ?_; rintro e w' ⟨rfl, rfl⟩) | (go_at_call 32; refine (rputs_any (hp.below (below_drewN (alloc_below _ _) _) (Nat.le_refl _))).mono ?_; rintro e w' ⟨rfl, hb⟩; obtain ⟨hbc, hbf⟩ := bcell hb))
      go_ret
      exact ⟨rfl, below_drewN (alloc_below _ _) _⟩
    · skip
      rcases h3 : inR c 0 100000 with _ | _
      · have h : movOk 1 n c l = false := by unfold movOk okN okC okP; simp [h4, h2, h3]
        rw [h]; clear h
        go_enter Tryz.func30, Tryz.ntmps30
        go_wp2
        go_quiet (fail)
        go_wp2_with (first | (go_at_call 31; refine (within_any _ _ _ _).mono ?_; rintro e w' ⟨rfl, rfl⟩) | (go_at_call 32; refine (rputs_any (hp.below (below_drewN (alloc_below _ _) _) (Nat.le_refl _))).mono ?_; rintro e w' ⟨rfl, hb⟩; obtain ⟨hbc, hbf⟩ := bcell hb))
        go_ret
        exact ⟨rfl, below_drewN (alloc_below _ _) _⟩
      · skip
        rcases h1 : l.all PD.ok with _ | _
        · have h : movOk 1 n c l = false := by unfold movOk okN okC okP; simp [h4, h2, h3, h1]
          rw [h]; clear h
          go_enter Tryz.func30, Tryz.ntmps30
          go_wp2
          go_quiet (fail)
          go_wp2_with (first | (go_at_call 31; refine (within_any _ _ _ _).mono ?_; rintro e w' ⟨rfl, rfl⟩) | (go_at_call 32; refine (rputs_any (hp.below (below_drewN (alloc_below _ _) _) (Nat.le_refl _))).mono ?_; rintro e w' ⟨rfl, hb⟩; obtain ⟨hbc, hbf⟩ := bcell hb))
          go_ret
          exact ⟨rfl, (below_drewN (alloc_below _ _) _).trans (hb.mono (by simp))⟩
        · skip
          have h : movOk 1 n c l = true := by unfold movOk okN okC okP; simp [h4, h2, h3, h1]
          rw [h]; clear h
          go_enter Tryz.func30, Tryz.ntmps30
          go_wp2
          go_quiet (fail)
          go_wp2_with (first | (go_at_call 31; refine (within_any _ _ _ _).mono ?_; rintro e w' ⟨rfl, rfl⟩) | (go_at_call 32; refine (rputs_any (hp.below (below_drewN (alloc_below _ _) _) (Nat.le_refl _))).mono ?_; rintro e w' ⟨rfl, hb⟩; obtain ⟨hbc, hbf⟩ := bcell hb))
          go_ret
          exact ⟨rfl, (below_drewN (alloc_below _ _) _).trans (hb.mono (by simp))⟩
end Go.Proofs.YtmaknbbijgihgaaGreatDoor
namespace Go.Proofs.YtmaknbbijgihgaaGreatDoor
open Go.RowKit
set_option maxHeartbeats 2000000 in
theorem rMove_2 {n c : Int} {l : List PD} {v : Value} {w : World} (hp : PutsAt w v l) :
    Calls Tryz.prog 30 #[.agg #[.int .i64 2, .int .i64 n, .int .i64 c, v]] w (BoolPost (movOk 2 n c l) w) := by
  obtain ⟨ao, b, off, cap, rfl, hq⟩ := hp
  have hp : PutsAt w (.slice ao l.length cap) l := ⟨ao, b, off, cap, rfl, hq⟩
  clear hq
  rcases h5 : (c == 0) with _ | _
  · have h : movOk 2 n c l = false := by unfold movOk okN okC okP; simp [h5]
    rw [h]; clear h
    go_enter Tryz.func30, Tryz.ntmps30
    go_wp2
    go_quiet (fail)
    go_wp2_with (first | (go_at_call 31; refine (within_any _ _ _ _).mono ?_; rintro e w' ⟨rfl, rfl⟩) | (go_at_call 32; refine (rputs_any (hp.below (below_drewN (alloc_below _ _) _) (Nat.le_refl _))).mono ?_; rintro e w' ⟨rfl, hb⟩; obtain ⟨hbc, hbf⟩ := bcell hb))
    go_ret
    exact ⟨rfl, below_drewN (alloc_below _ _) _⟩
  · skip
    rcases h6 : ((l.length : Int) == 0) with _ | _
    · have h : movOk 2 n c l = false := by unfold movOk okN okC okP; simp [h5, h6]
      rw [h]; clear h
      go_enter Tryz.func30, Tryz.ntmps30
      go_wp2
      go_quiet (fail)
      go_wp2_with (first | (go_at_call 31; refine (within_any _ _ _ _).mono ?_; rintro e w' ⟨rfl, rfl⟩) | (go_at_call 32; refine (rputs_any (hp.below (below_drewN (alloc_below _ _) _) (Nat.le_refl _))).mono ?_; rintro e w' ⟨rfl, hb⟩; obtain ⟨hbc, hbf⟩ := bcell hb))
      go_ret
      exact ⟨rfl, below_drewN (alloc_below _ _) _⟩
    · skip
      rcases h2 : inR n 0 100000 with _ | _
      · have h : movOk 2 n c l = false := by unfold movOk okN okC okP; simp [h5, h6, h2]
        rw [h]; clear h
        go_enter Tryz.func30, Tryz.ntmps30
        go_wp2
        go_quiet (fail)
        go_wp2_with (first | (go_at_call 31; refine (within_any _ _ _ _).mono ?_; rintro e w' ⟨rfl, rfl⟩) | (go_at_call 32; refine (rputs_any (hp.below (below_drewN (alloc_below _ _) _) (Nat.le_refl _))).mono ?_; rintro e w' ⟨rfl, hb⟩; obtain ⟨hbc, hbf⟩ := bcell hb))
        go_ret
        exact ⟨rfl, below_drewN (alloc_below _ _) _⟩
      · skip
        rcases h3 : inR c 0 100000 with _ | _
        · have h : movOk 2 n c l = false := by unfold movOk okN okC okP; simp [h5, h6, h2, h3]
          rw [h]; clear h
          go_enter Tryz.func30, Tryz.ntmps30
          go_wp2
          go_quiet (fail)
          go_wp2_with (first | (go_at_call 31; refine (within_any _ _ _ _).mono ?_; rintro e w' ⟨rfl, rfl⟩) | (go_at_call 32; refine (rputs_any (hp.below (below_drewN (alloc_below _ _) _) (Nat.le_refl _))).mono ?_; rintro e w' ⟨rfl, hb⟩; obtain ⟨hbc, hbf⟩ := bcell hb))
          go_ret
          exact ⟨rfl, below_drewN (alloc_below _ _) _⟩
        · skip
          rcases h1 : l.all PD.ok with _ | _
          · have h : movOk 2 n c l = false := by unfold movOk okN okC okP; simp [h5, h6, h2, h3, h1]
            rw [h]; clear h
            go_enter Tryz.func30, Tryz.ntmps30
            go_wp2
            go_quiet (fail)
            go_wp2_with (first | (go_at_call 31; refine (within_any _ _ _ _).mono ?_; rintro e w' ⟨rfl, rfl⟩) | (go_at_call 32; refine (rputs_any (hp.below (below_drewN (alloc_below _ _) _) (Nat.le_refl _))).mono ?_; rintro e w' ⟨rfl, hb⟩; obtain ⟨hbc, hbf⟩ := bcell hb))
            go_ret
            exact ⟨rfl, (below_drewN (alloc_below _ _) _).trans (hb.mono (by simp))⟩
          · skip
            have h : movOk 2 n c l = true := by unfold movOk okN okC okP; simp [h5, h6, h2, h3, h1]
            rw [h]; clear h
            go_enter Tryz.func30, Tryz.ntmps30
            go_wp2
            go_quiet (fail)
            go_wp2_with (first | (go_at_call 31; refine (within_any _ _ _ _).mono ?_; rintro e w' ⟨rfl, rfl⟩) | (go_at_call 32; refine (rputs_any (hp.below (below_drewN (alloc_below _ _) _) (Nat.le_refl _))).mono ?_; rintro e w' ⟨rfl, hb⟩; obtain ⟨hbc, hbf⟩ := bcell hb))
            go_ret
            exact ⟨rfl, (below_drewN (alloc_below _ _) _).trans (hb.mono (by simp))⟩
end Go.Proofs.YtmaknbbijgihgaaGreatDoor
namespace Go.Proofs.YtmaknbbijgihgaaGreatDoor
open Go.RowKit
set_option maxHeartbeats 2000000 in
theorem rMove_3 {n c : Int} {l : List PD} {v : Value} {w : World} (hp : PutsAt w v l) :
    Calls Tryz.prog 30 #[.agg #[.int .i64 3, .int .i64 n, .int .i64 c, v]] w (BoolPost (movOk 3 n c l) w) := by
  obtain ⟨ao, b, off, cap, rfl, hq⟩ := hp
  have hp : PutsAt w (.slice ao l.length cap) l := ⟨ao, b, off, cap, rfl, hq⟩
  clear hq
  rcases h4 : (n == 0) with _ | _
  · have h : movOk 3 n c l = false := by unfold movOk okN okC okP; simp [h4]
    rw [h]; clear h
    go_enter Tryz.func30, Tryz.ntmps30
    go_wp2
    go_quiet (fail)
    go_wp2_with (first | (go_at_call 31; refine (within_any _ _ _ _).mono ?_; rintro e w' ⟨rfl, rfl⟩) | (go_at_call 32; refine (rputs_any (hp.below (below_drewN (alloc_below _ _) _) (Nat.le_refl _))).mono ?_; rintro e w' ⟨rfl, hb⟩; obtain ⟨hbc, hbf⟩ := bcell hb))
    go_ret
    exact ⟨rfl, below_drewN (alloc_below _ _) _⟩
  · skip
    rcases h5 : (c == 0) with _ | _
    · have h : movOk 3 n c l = false := by unfold movOk okN okC okP; simp [h4, h5]
      rw [h]; clear h
      go_enter Tryz.func30, Tryz.ntmps30
      go_wp2
      go_quiet (fail)
      go_wp2_with (first | (go_at_call 31; refine (within_any _ _ _ _).mono ?_; rintro e w' ⟨rfl, rfl⟩) | (go_at_call 32; refine (rputs_any (hp.below (below_drewN (alloc_below _ _) _) (Nat.le_refl _))).mono ?_; rintro e w' ⟨rfl, hb⟩; obtain ⟨hbc, hbf⟩ := bcell hb))
      go_ret
      exact ⟨rfl, below_drewN (alloc_below _ _) _⟩
    · skip
      rcases h6 : ((l.length : Int) == 0) with _ | _
      · have h : movOk 3 n c l = false := by unfold movOk okN okC okP; simp [h4, h5, h6]
        rw [h]; clear h
        go_enter Tryz.func30, Tryz.ntmps30
        go_wp2
        go_quiet (fail)
        go_wp2_with (first | (go_at_call 31; refine (within_any _ _ _ _).mono ?_; rintro e w' ⟨rfl, rfl⟩) | (go_at_call 32; refine (rputs_any (hp.below (below_drewN (alloc_below _ _) _) (Nat.le_refl _))).mono ?_; rintro e w' ⟨rfl, hb⟩; obtain ⟨hbc, hbf⟩ := bcell hb))
        go_ret
        exact ⟨rfl, below_drewN (alloc_below _ _) _⟩
      · skip
        rcases h2 : inR n 0 100000 with _ | _
        · have h : movOk 3 n c l = false := by unfold movOk okN okC okP; simp [h4, h5, h6, h2]
          rw [h]; clear h
          go_enter Tryz.func30, Tryz.ntmps30
          go_wp2
          go_quiet (fail)
          go_wp2_with (first | (go_at_call 31; refine (within_any _ _ _ _).mono ?_; rintro e w' ⟨rfl, rfl⟩) | (go_at_call 32; refine (rputs_any (hp.below (below_drewN (alloc_below _ _) _) (Nat.le_refl _))).mono ?_; rintro e w' ⟨rfl, hb⟩; obtain ⟨hbc, hbf⟩ := bcell hb))
          go_ret
          exact ⟨rfl, below_drewN (alloc_below _ _) _⟩
        · skip
          rcases h3 : inR c 0 100000 with _ | _
          · have h : movOk 3 n c l = false := by unfold movOk okN okC okP; simp [h4, h5, h6, h2, h3]
            rw [h]; clear h
            go_enter Tryz.func30, Tryz.ntmps30
            go_wp2
            go_quiet (fail)
            go_wp2_with (first | (go_at_call 31; refine (within_any _ _ _ _).mono ?_; rintro e w' ⟨rfl, rfl⟩) | (go_at_call 32; refine (rputs_any (hp.below (below_drewN (alloc_below _ _) _) (Nat.le_refl _))).mono ?_; rintro e w' ⟨rfl, hb⟩; obtain ⟨hbc, hbf⟩ := bcell hb))
            go_ret
            exact ⟨rfl, below_drewN (alloc_below _ _) _⟩
          · skip
            rcases h1 : l.all PD.ok with _ | _
            · have h : movOk 3 n c l = false := by unfold movOk okN okC okP; simp [h4, h5, h6, h2, h3, h1]
              rw [h]; clear h
              go_enter Tryz.func30, Tryz.ntmps30
              go_wp2
              go_quiet (fail)
              go_wp2_with (first | (go_at_call 31; refine (within_any _ _ _ _).mono ?_; rintro e w' ⟨rfl, rfl⟩) | (go_at_call 32; refine (rputs_any (hp.below (below_drewN (alloc_below _ _) _) (Nat.le_refl _))).mono ?_; rintro e w' ⟨rfl, hb⟩; obtain ⟨hbc, hbf⟩ := bcell hb))
              go_ret
              exact ⟨rfl, (below_drewN (alloc_below _ _) _).trans (hb.mono (by simp))⟩
            · skip
              have h : movOk 3 n c l = true := by unfold movOk okN okC okP; simp [h4, h5, h6, h2, h3, h1]
              rw [h]; clear h
              go_enter Tryz.func30, Tryz.ntmps30
              go_wp2
              go_quiet (fail)
              go_wp2_with (first | (go_at_call 31; refine (within_any _ _ _ _).mono ?_; rintro e w' ⟨rfl, rfl⟩) | (go_at_call 32; refine (rputs_any (hp.below (below_drewN (alloc_below _ _) _) (Nat.le_refl _))).mono ?_; rintro e w' ⟨rfl, hb⟩; obtain ⟨hbc, hbf⟩ := bcell hb))
              go_ret
              exact ⟨rfl, (below_drewN (alloc_below _ _) _).trans (hb.mono (by simp))⟩
end Go.Proofs.YtmaknbbijgihgaaGreatDoor
namespace Go.Proofs.YtmaknbbijgihgaaGreatDoor
open Go.RowKit
set_option maxHeartbeats 2000000 in
theorem rMove_4 {n c : Int} {l : List PD} {v : Value} {w : World} (hp : PutsAt w v l) :
    Calls Tryz.prog 30 #[.agg #[.int .i64 4, .int .i64 n, .int .i64 c, v]] w (BoolPost (movOk 4 n c l) w) := by
  obtain ⟨ao, b, off, cap, rfl, hq⟩ := hp
  have hp : PutsAt w (.slice ao l.length cap) l := ⟨ao, b, off, cap, rfl, hq⟩
  clear hq
  rcases h2 : inR n 0 100000 with _ | _
  · have h : movOk 4 n c l = false := by unfold movOk okN okC okP; simp [h2]
    rw [h]; clear h
    go_enter Tryz.func30, Tryz.ntmps30
    go_wp2
    go_quiet (fail)
    go_wp2_with (first | (go_at_call 31; refine (within_any _ _ _ _).mono ?_; rintro e w' ⟨rfl, rfl⟩) | (go_at_call 32; refine (rputs_any (hp.below (below_drewN (alloc_below _ _) _) (Nat.le_refl _))).mono ?_; rintro e w' ⟨rfl, hb⟩; obtain ⟨hbc, hbf⟩ := bcell hb))
    go_ret
    exact ⟨rfl, below_drewN (alloc_below _ _) _⟩
  · skip
    rcases h3 : inR c 0 100000 with _ | _
    · have h : movOk 4 n c l = false := by unfold movOk okN okC okP; simp [h2, h3]
      rw [h]; clear h
      go_enter Tryz.func30, Tryz.ntmps30
      go_wp2
      go_quiet (fail)
      go_wp2_with (first | (go_at_call 31; refine (within_any _ _ _ _).mono ?_; rintro e w' ⟨rfl, rfl⟩) | (go_at_call 32; refine (rputs_any (hp.below (below_drewN (alloc_below _ _) _) (Nat.le_refl _))).mono ?_; rintro e w' ⟨rfl, hb⟩; obtain ⟨hbc, hbf⟩ := bcell hb))
      go_ret
      exact ⟨rfl, below_drewN (alloc_below _ _) _⟩
    · skip
      rcases h1 : l.all PD.ok with _ | _
      · have h : movOk 4 n c l = false := by unfold movOk okN okC okP; simp [h2, h3, h1]
        rw [h]; clear h
        go_enter Tryz.func30, Tryz.ntmps30
        go_wp2
        go_quiet (fail)
        go_wp2_with (first | (go_at_call 31; refine (within_any _ _ _ _).mono ?_; rintro e w' ⟨rfl, rfl⟩) | (go_at_call 32; refine (rputs_any (hp.below (below_drewN (alloc_below _ _) _) (Nat.le_refl _))).mono ?_; rintro e w' ⟨rfl, hb⟩; obtain ⟨hbc, hbf⟩ := bcell hb))
        go_ret
        exact ⟨rfl, (below_drewN (alloc_below _ _) _).trans (hb.mono (by simp))⟩
      · skip
        have h : movOk 4 n c l = true := by unfold movOk okN okC okP; simp [h2, h3, h1]
        rw [h]; clear h
        go_enter Tryz.func30, Tryz.ntmps30
        go_wp2
        go_quiet (fail)
        go_wp2_with (first | (go_at_call 31; refine (within_any _ _ _ _).mono ?_; rintro e w' ⟨rfl, rfl⟩) | (go_at_call 32; refine (rputs_any (hp.below (below_drewN (alloc_below _ _) _) (Nat.le_refl _))).mono ?_; rintro e w' ⟨rfl, hb⟩; obtain ⟨hbc, hbf⟩ := bcell hb))
        go_ret
        exact ⟨rfl, (below_drewN (alloc_below _ _) _).trans (hb.mono (by simp))⟩
end Go.Proofs.YtmaknbbijgihgaaGreatDoor
namespace Go.Proofs.YtmaknbbijgihgaaGreatDoor
open Go.RowKit
set_option maxHeartbeats 2000000 in
theorem rMove_5 {n c : Int} {l : List PD} {v : Value} {w : World} (hp : PutsAt w v l) :
    Calls Tryz.prog 30 #[.agg #[.int .i64 5, .int .i64 n, .int .i64 c, v]] w (BoolPost (movOk 5 n c l) w) := by
  obtain ⟨ao, b, off, cap, rfl, hq⟩ := hp
  have hp : PutsAt w (.slice ao l.length cap) l := ⟨ao, b, off, cap, rfl, hq⟩
  clear hq
  rcases h4 : (n == 0) with _ | _
  · have h : movOk 5 n c l = false := by unfold movOk okN okC okP; simp [h4]
    rw [h]; clear h
    go_enter Tryz.func30, Tryz.ntmps30
    go_wp2
    go_quiet (fail)
    go_wp2_with (first | (go_at_call 31; refine (within_any _ _ _ _).mono ?_; rintro e w' ⟨rfl, rfl⟩) | (go_at_call 32; refine (rputs_any (hp.below (below_drewN (alloc_below _ _) _) (Nat.le_refl _))).mono ?_; rintro e w' ⟨rfl, hb⟩; obtain ⟨hbc, hbf⟩ := bcell hb))
    go_ret
    exact ⟨rfl, below_drewN (alloc_below _ _) _⟩
  · skip
    rcases h5 : (c == 0) with _ | _
    · have h : movOk 5 n c l = false := by unfold movOk okN okC okP; simp [h4, h5]
      rw [h]; clear h
      go_enter Tryz.func30, Tryz.ntmps30
      go_wp2
      go_quiet (fail)
      go_wp2_with (first | (go_at_call 31; refine (within_any _ _ _ _).mono ?_; rintro e w' ⟨rfl, rfl⟩) | (go_at_call 32; refine (rputs_any (hp.below (below_drewN (alloc_below _ _) _) (Nat.le_refl _))).mono ?_; rintro e w' ⟨rfl, hb⟩; obtain ⟨hbc, hbf⟩ := bcell hb))
      go_ret
      exact ⟨rfl, below_drewN (alloc_below _ _) _⟩
    · skip
      rcases h2 : inR n 0 100000 with _ | _
      · have h : movOk 5 n c l = false := by unfold movOk okN okC okP; simp [h4, h5, h2]
        rw [h]; clear h
        go_enter Tryz.func30, Tryz.ntmps30
        go_wp2
        go_quiet (fail)
        go_wp2_with (first | (go_at_call 31; refine (within_any _ _ _ _).mono ?_; rintro e w' ⟨rfl, rfl⟩) | (go_at_call 32; refine (rputs_any (hp.below (below_drewN (alloc_below _ _) _) (Nat.le_refl _))).mono ?_; rintro e w' ⟨rfl, hb⟩; obtain ⟨hbc, hbf⟩ := bcell hb))
        go_ret
        exact ⟨rfl, below_drewN (alloc_below _ _) _⟩
      · skip
        rcases h3 : inR c 0 100000 with _ | _
        · have h : movOk 5 n c l = false := by unfold movOk okN okC okP; simp [h4, h5, h2, h3]
          rw [h]; clear h
          go_enter Tryz.func30, Tryz.ntmps30
          go_wp2
          go_quiet (fail)
          go_wp2_with (first | (go_at_call 31; refine (within_any _ _ _ _).mono ?_; rintro e w' ⟨rfl, rfl⟩) | (go_at_call 32; refine (rputs_any (hp.below (below_drewN (alloc_below _ _) _) (Nat.le_refl _))).mono ?_; rintro e w' ⟨rfl, hb⟩; obtain ⟨hbc, hbf⟩ := bcell hb))
          go_ret
          exact ⟨rfl, below_drewN (alloc_below _ _) _⟩
        · skip
          rcases h1 : l.all PD.ok with _ | _
          · have h : movOk 5 n c l = false := by unfold movOk okN okC okP; simp [h4, h5, h2, h3, h1]
            rw [h]; clear h
            go_enter Tryz.func30, Tryz.ntmps30
            go_wp2
            go_quiet (fail)
            go_wp2_with (first | (go_at_call 31; refine (within_any _ _ _ _).mono ?_; rintro e w' ⟨rfl, rfl⟩) | (go_at_call 32; refine (rputs_any (hp.below (below_drewN (alloc_below _ _) _) (Nat.le_refl _))).mono ?_; rintro e w' ⟨rfl, hb⟩; obtain ⟨hbc, hbf⟩ := bcell hb))
            go_ret
            exact ⟨rfl, (below_drewN (alloc_below _ _) _).trans (hb.mono (by simp))⟩
          · skip
            have h : movOk 5 n c l = true := by unfold movOk okN okC okP; simp [h4, h5, h2, h3, h1]
            rw [h]; clear h
            go_enter Tryz.func30, Tryz.ntmps30
            go_wp2
            go_quiet (fail)
            go_wp2_with (first | (go_at_call 31; refine (within_any _ _ _ _).mono ?_; rintro e w' ⟨rfl, rfl⟩) | (go_at_call 32; refine (rputs_any (hp.below (below_drewN (alloc_below _ _) _) (Nat.le_refl _))).mono ?_; rintro e w' ⟨rfl, hb⟩; obtain ⟨hbc, hbf⟩ := bcell hb))
            go_ret
            exact ⟨rfl, (below_drewN (alloc_below _ _) _).trans (hb.mono (by simp))⟩
end Go.Proofs.YtmaknbbijgihgaaGreatDoor
namespace Go.Proofs.YtmaknbbijgihgaaGreatDoor
open Go.RowKit
set_option maxHeartbeats 2000000 in
theorem rMove_6 {n c : Int} {l : List PD} {v : Value} {w : World} (hp : PutsAt w v l) :
    Calls Tryz.prog 30 #[.agg #[.int .i64 6, .int .i64 n, .int .i64 c, v]] w (BoolPost (movOk 6 n c l) w) := by
  obtain ⟨ao, b, off, cap, rfl, hq⟩ := hp
  have hp : PutsAt w (.slice ao l.length cap) l := ⟨ao, b, off, cap, rfl, hq⟩
  clear hq
  rcases h4 : (n == 0) with _ | _
  · have h : movOk 6 n c l = false := by unfold movOk okN okC okP; simp [h4]
    rw [h]; clear h
    go_enter Tryz.func30, Tryz.ntmps30
    go_wp2
    go_quiet (fail)
    go_wp2_with (first | (go_at_call 31; refine (within_any _ _ _ _).mono ?_; rintro e w' ⟨rfl, rfl⟩) | (go_at_call 32; refine (rputs_any (hp.below (below_drewN (alloc_below _ _) _) (Nat.le_refl _))).mono ?_; rintro e w' ⟨rfl, hb⟩; obtain ⟨hbc, hbf⟩ := bcell hb))
    go_ret
    exact ⟨rfl, below_drewN (alloc_below _ _) _⟩
  · skip
    rcases h5 : (c == 0) with _ | _
    · have h : movOk 6 n c l = false := by unfold movOk okN okC okP; simp [h4, h5]
      rw [h]; clear h
      go_enter Tryz.func30, Tryz.ntmps30
      go_wp2
      go_quiet (fail)
      go_wp2_with (first | (go_at_call 31; refine (within_any _ _ _ _).mono ?_; rintro e w' ⟨rfl, rfl⟩) | (go_at_call 32; refine (rputs_any (hp.below (below_drewN (alloc_below _ _) _) (Nat.le_refl _))).mono ?_; rintro e w' ⟨rfl, hb⟩; obtain ⟨hbc, hbf⟩ := bcell hb))
      go_ret
      exact ⟨rfl, below_drewN (alloc_below _ _) _⟩
    · skip
      rcases h2 : inR n 0 100000 with _ | _
      · have h : movOk 6 n c l = false := by unfold movOk okN okC okP; simp [h4, h5, h2]
        rw [h]; clear h
        go_enter Tryz.func30, Tryz.ntmps30
        go_wp2
        go_quiet (fail)
        go_wp2_with (first | (go_at_call 31; refine (within_any _ _ _ _).mono ?_; rintro e w' ⟨rfl, rfl⟩) | (go_at_call 32; refine (rputs_any (hp.below (below_drewN (alloc_below _ _) _) (Nat.le_refl _))).mono ?_; rintro e w' ⟨rfl, hb⟩; obtain ⟨hbc, hbf⟩ := bcell hb))
        go_ret
        exact ⟨rfl, below_drewN (alloc_below _ _) _⟩
      · skip
        rcases h3 : inR c 0 100000 with _ | _
        · have h : movOk 6 n c l = false := by unfold movOk okN okC okP; simp [h4, h5, h2, h3]
          rw [h]; clear h
          go_enter Tryz.func30, Tryz.ntmps30
          go_wp2
          go_quiet (fail)
          go_wp2_with (first | (go_at_call 31; refine (within_any _ _ _ _).mono ?_; rintro e w' ⟨rfl, rfl⟩) | (go_at_call 32; refine (rputs_any (hp.below (below_drewN (alloc_below _ _) _) (Nat.le_refl _))).mono ?_; rintro e w' ⟨rfl, hb⟩; obtain ⟨hbc, hbf⟩ := bcell hb))
          go_ret
          exact ⟨rfl, below_drewN (alloc_below _ _) _⟩
        · skip
          rcases h1 : l.all PD.ok with _ | _
          · have h : movOk 6 n c l = false := by unfold movOk okN okC okP; simp [h4, h5, h2, h3, h1]
            rw [h]; clear h
            go_enter Tryz.func30, Tryz.ntmps30
            go_wp2
            go_quiet (fail)
            go_wp2_with (first | (go_at_call 31; refine (within_any _ _ _ _).mono ?_; rintro e w' ⟨rfl, rfl⟩) | (go_at_call 32; refine (rputs_any (hp.below (below_drewN (alloc_below _ _) _) (Nat.le_refl _))).mono ?_; rintro e w' ⟨rfl, hb⟩; obtain ⟨hbc, hbf⟩ := bcell hb))
            go_ret
            exact ⟨rfl, (below_drewN (alloc_below _ _) _).trans (hb.mono (by simp))⟩
          · skip
            have h : movOk 6 n c l = true := by unfold movOk okN okC okP; simp [h4, h5, h2, h3, h1]
            rw [h]; clear h
            go_enter Tryz.func30, Tryz.ntmps30
            go_wp2
            go_quiet (fail)
            go_wp2_with (first | (go_at_call 31; refine (within_any _ _ _ _).mono ?_; rintro e w' ⟨rfl, rfl⟩) | (go_at_call 32; refine (rputs_any (hp.below (below_drewN (alloc_below _ _) _) (Nat.le_refl _))).mono ?_; rintro e w' ⟨rfl, hb⟩; obtain ⟨hbc, hbf⟩ := bcell hb))
            go_ret
            exact ⟨rfl, (below_drewN (alloc_below _ _) _).trans (hb.mono (by simp))⟩
end Go.Proofs.YtmaknbbijgihgaaGreatDoor
namespace Go.Proofs.YtmaknbbijgihgaaGreatDoor
open Go.RowKit
set_option maxHeartbeats 2000000 in
theorem rMove_7 {n c : Int} {l : List PD} {v : Value} {w : World} (hp : PutsAt w v l) :
    Calls Tryz.prog 30 #[.agg #[.int .i64 7, .int .i64 n, .int .i64 c, v]] w (BoolPost (movOk 7 n c l) w) := by
  obtain ⟨ao, b, off, cap, rfl, hq⟩ := hp
  have hp : PutsAt w (.slice ao l.length cap) l := ⟨ao, b, off, cap, rfl, hq⟩
  clear hq
  rcases h5 : (c == 0) with _ | _
  · have h : movOk 7 n c l = false := by unfold movOk okN okC okP; simp [h5]
    rw [h]; clear h
    go_enter Tryz.func30, Tryz.ntmps30
    go_wp2
    go_quiet (fail)
    go_wp2_with (first | (go_at_call 31; refine (within_any _ _ _ _).mono ?_; rintro e w' ⟨rfl, rfl⟩) | (go_at_call 32; refine (rputs_any (hp.below (below_drewN (alloc_below _ _) _) (Nat.le_refl _))).mono ?_; rintro e w' ⟨rfl, hb⟩; obtain ⟨hbc, hbf⟩ := bcell hb))
    go_ret
    exact ⟨rfl, below_drewN (alloc_below _ _) _⟩
  · skip
    rcases h6 : ((l.length : Int) == 0) with _ | _
    · have h : movOk 7 n c l = false := by unfold movOk okN okC okP; simp [h5, h6]
      rw [h]; clear h
      go_enter Tryz.func30, Tryz.ntmps30
      go_wp2
      go_quiet (fail)
      go_wp2_with (first | (go_at_call 31; refine (within_any _ _ _ _).mono ?_; rintro e w' ⟨rfl, rfl⟩) | (go_at_call 32; refine (rputs_any (hp.below (below_drewN (alloc_below _ _) _) (Nat.le_refl _))).mono ?_; rintro e w' ⟨rfl, hb⟩; obtain ⟨hbc, hbf⟩ := bcell hb))
      go_ret
      exact ⟨rfl, below_drewN (alloc_below _ _) _⟩
    · skip
      rcases h2 : inR n 0 100000 with _ | _
      · have h : movOk 7 n c l = false := by unfold movOk okN okC okP; simp [h5, h6, h2]
        rw [h]; clear h
        go_enter Tryz.func30, Tryz.ntmps30
        go_wp2
        go_quiet (fail)
        go_wp2_with (first | (go_at_call 31; refine (within_any _ _ _ _).mono ?_; rintro e w' ⟨rfl, rfl⟩) | (go_at_call 32; refine (rputs_any (hp.below (below_drewN (alloc_below _ _) _) (Nat.le_refl _))).mono ?_; rintro e w' ⟨rfl, hb⟩; obtain ⟨hbc, hbf⟩ := bcell hb))
        go_ret
        exact ⟨rfl, below_drewN (alloc_below _ _) _⟩
      · skip
        rcases h3 : inR c 0 100000 with _ | _
        · have h : movOk 7 n c l = false := by unfold movOk okN okC okP; simp [h5, h6, h2, h3]
          rw [h]; clear h
          go_enter Tryz.func30, Tryz.ntmps30
          go_wp2
          go_quiet (fail)
          go_wp2_with (first | (go_at_call 31; refine (within_any _ _ _ _).mono ?_; rintro e w' ⟨rfl, rfl⟩) | (go_at_call 32; refine (rputs_any (hp.below (below_drewN (alloc_below _ _) _) (Nat.le_refl _))).mono ?_; rintro e w' ⟨rfl, hb⟩; obtain ⟨hbc, hbf⟩ := bcell hb))
          go_ret
          exact ⟨rfl, below_drewN (alloc_below _ _) _⟩
        · skip
          rcases h1 : l.all PD.ok with _ | _
          · have h : movOk 7 n c l = false := by unfold movOk okN okC okP; simp [h5, h6, h2, h3, h1]
            rw [h]; clear h
            go_enter Tryz.func30, Tryz.ntmps30
            go_wp2
            go_quiet (fail)
            go_wp2_with (first | (go_at_call 31; refine (within_any _ _ _ _).mono ?_; rintro e w' ⟨rfl, rfl⟩) | (go_at_call 32; refine (rputs_any (hp.below (below_drewN (alloc_below _ _) _) (Nat.le_refl _))).mono ?_; rintro e w' ⟨rfl, hb⟩; obtain ⟨hbc, hbf⟩ := bcell hb))
            go_ret
            exact ⟨rfl, (below_drewN (alloc_below _ _) _).trans (hb.mono (by simp))⟩
          · skip
            have h : movOk 7 n c l = true := by unfold movOk okN okC okP; simp [h5, h6, h2, h3, h1]
            rw [h]; clear h
            go_enter Tryz.func30, Tryz.ntmps30
            go_wp2
            go_quiet (fail)
            go_wp2_with (first | (go_at_call 31; refine (within_any _ _ _ _).mono ?_; rintro e w' ⟨rfl, rfl⟩) | (go_at_call 32; refine (rputs_any (hp.below (below_drewN (alloc_below _ _) _) (Nat.le_refl _))).mono ?_; rintro e w' ⟨rfl, hb⟩; obtain ⟨hbc, hbf⟩ := bcell hb))
            go_ret
            exact ⟨rfl, (below_drewN (alloc_below _ _) _).trans (hb.mono (by simp))⟩
end Go.Proofs.YtmaknbbijgihgaaGreatDoor
