/- Proved here: contracts: a move is formed (program), kinds 4 to 7. Conditions: those of the row Rows.traceImagesRow (its listed variables as laid); none else. -/
import Derived.Test.YtmaknbbijgihgaaGreatDoorW1
set_option linter.all false
namespace Go.Proofs.YtmaknbbijgihgaaGreatDoor
open Go.RowKit
set_option maxHeartbeats 400000 in
theorem isMove_4 {n c : Int} {l : List PD} {v : Value} {w : World} (hp : PutsAt w v l) (hN : NamesAt w) :
    Calls Tryz.prog 44 #[.agg #[.int .i64 4, .int .i64 n, .int .i64 c, v]] w (BoolPost (movOk 4 n c l) w) := by
  obtain ⟨ao, b, off, cap, rfl, hq⟩ := hp
  have hp : PutsAt w (.slice ao l.length cap) l := ⟨ao, b, off, cap, rfl, hq⟩
  clear hq
  have hs : ¬ (nm 4).toList = [] := nm_ne (by omega) (by omega)
  have hs' : (nm 4).toList.isEmpty = false := by rw [List.isEmpty_eq_false_iff]; exact hs
  have hs2 : (!(nm 4).toList.isEmpty) = true := by rw [hs']; rfl
  rcases h1 : l.all PD.ok with _ | _
  · have h : movOk 4 n c l = false := by unfold movOk okN okC okP; simp [h1]
    rw [h]; clear h
    go_enter Tryz.func44, Tryz.ntmps44
    go_wp2_with (first | (go_at_call 60; refine (name_in (k := 4) (by omega) (by omega) (hN.below (alloc_below _ _) (Nat.le_refl _))).mono ?_; rintro e w' ⟨rfl, rfl⟩) | (go_at_call 45; refine (isPuts_any (hp.below (alloc_below _ _) (Nat.le_refl _))).mono ?_; rintro e w' ⟨rfl, hb⟩; obtain ⟨hbc, hbf⟩ := bcell hb) | (go_at_call 64; refine (small_any _ _).mono ?_; rintro e w' ⟨rfl, rfl⟩))
    go_ret
    exact ⟨rfl, (alloc_below _ _).trans (hb.mono (by simp))⟩
  · skip
    rcases h2 : inR n 0 100000 with _ | _
    · have h : movOk 4 n c l = false := by unfold movOk okN okC okP; simp [h1, h2]
      rw [h]; clear h
      go_enter Tryz.func44, Tryz.ntmps44
      go_wp2_with (first | (go_at_call 60; refine (name_in (k := 4) (by omega) (by omega) (hN.below (alloc_below _ _) (Nat.le_refl _))).mono ?_; rintro e w' ⟨rfl, rfl⟩) | (go_at_call 45; refine (isPuts_any (hp.below (alloc_below _ _) (Nat.le_refl _))).mono ?_; rintro e w' ⟨rfl, hb⟩; obtain ⟨hbc, hbf⟩ := bcell hb) | (go_at_call 64; refine (small_any _ _).mono ?_; rintro e w' ⟨rfl, rfl⟩))
      go_ret
      exact ⟨rfl, (alloc_below _ _).trans (hb.mono (by simp))⟩
    · skip
      rcases h3 : inR c 0 100000 with _ | _
      · have h : movOk 4 n c l = false := by unfold movOk okN okC okP; simp [h1, h2, h3]
        rw [h]; clear h
        go_enter Tryz.func44, Tryz.ntmps44
        go_wp2_with (first | (go_at_call 60; refine (name_in (k := 4) (by omega) (by omega) (hN.below (alloc_below _ _) (Nat.le_refl _))).mono ?_; rintro e w' ⟨rfl, rfl⟩) | (go_at_call 45; refine (isPuts_any (hp.below (alloc_below _ _) (Nat.le_refl _))).mono ?_; rintro e w' ⟨rfl, hb⟩; obtain ⟨hbc, hbf⟩ := bcell hb) | (go_at_call 64; refine (small_any _ _).mono ?_; rintro e w' ⟨rfl, rfl⟩))
        go_ret
        exact ⟨rfl, (alloc_below _ _).trans (hb.mono (by simp))⟩
      · skip
        have h : movOk 4 n c l = true := by unfold movOk okN okC okP; simp [h1, h2, h3]
        rw [h]; clear h
        go_enter Tryz.func44, Tryz.ntmps44
        go_wp2_with (first | (go_at_call 60; refine (name_in (k := 4) (by omega) (by omega) (hN.below (alloc_below _ _) (Nat.le_refl _))).mono ?_; rintro e w' ⟨rfl, rfl⟩) | (go_at_call 45; refine (isPuts_any (hp.below (alloc_below _ _) (Nat.le_refl _))).mono ?_; rintro e w' ⟨rfl, hb⟩; obtain ⟨hbc, hbf⟩ := bcell hb) | (go_at_call 64; refine (small_any _ _).mono ?_; rintro e w' ⟨rfl, rfl⟩))
        go_ret
        exact ⟨rfl, (alloc_below _ _).trans (hb.mono (by simp))⟩
end Go.Proofs.YtmaknbbijgihgaaGreatDoor
namespace Go.Proofs.YtmaknbbijgihgaaGreatDoor
open Go.RowKit
set_option maxHeartbeats 400000 in
theorem isMove_5 {n c : Int} {l : List PD} {v : Value} {w : World} (hp : PutsAt w v l) (hN : NamesAt w) :
    Calls Tryz.prog 44 #[.agg #[.int .i64 5, .int .i64 n, .int .i64 c, v]] w (BoolPost (movOk 5 n c l) w) := by
  obtain ⟨ao, b, off, cap, rfl, hq⟩ := hp
  have hp : PutsAt w (.slice ao l.length cap) l := ⟨ao, b, off, cap, rfl, hq⟩
  clear hq
  have hs : ¬ (nm 5).toList = [] := nm_ne (by omega) (by omega)
  have hs' : (nm 5).toList.isEmpty = false := by rw [List.isEmpty_eq_false_iff]; exact hs
  have hs2 : (!(nm 5).toList.isEmpty) = true := by rw [hs']; rfl
  rcases h1 : l.all PD.ok with _ | _
  · have h : movOk 5 n c l = false := by unfold movOk okN okC okP; simp [h1]
    rw [h]; clear h
    go_enter Tryz.func44, Tryz.ntmps44
    go_wp2_with (first | (go_at_call 60; refine (name_in (k := 5) (by omega) (by omega) (hN.below (alloc_below _ _) (Nat.le_refl _))).mono ?_; rintro e w' ⟨rfl, rfl⟩) | (go_at_call 45; refine (isPuts_any (hp.below (alloc_below _ _) (Nat.le_refl _))).mono ?_; rintro e w' ⟨rfl, hb⟩; obtain ⟨hbc, hbf⟩ := bcell hb) | (go_at_call 64; refine (small_any _ _).mono ?_; rintro e w' ⟨rfl, rfl⟩))
    go_ret
    exact ⟨rfl, (alloc_below _ _).trans (hb.mono (by simp))⟩
  · skip
    rcases h2 : inR n 0 100000 with _ | _
    · have h : movOk 5 n c l = false := by unfold movOk okN okC okP; simp [h1, h2]
      rw [h]; clear h
      go_enter Tryz.func44, Tryz.ntmps44
      go_wp2_with (first | (go_at_call 60; refine (name_in (k := 5) (by omega) (by omega) (hN.below (alloc_below _ _) (Nat.le_refl _))).mono ?_; rintro e w' ⟨rfl, rfl⟩) | (go_at_call 45; refine (isPuts_any (hp.below (alloc_below _ _) (Nat.le_refl _))).mono ?_; rintro e w' ⟨rfl, hb⟩; obtain ⟨hbc, hbf⟩ := bcell hb) | (go_at_call 64; refine (small_any _ _).mono ?_; rintro e w' ⟨rfl, rfl⟩))
      go_ret
      exact ⟨rfl, (alloc_below _ _).trans (hb.mono (by simp))⟩
    · skip
      rcases h3 : inR c 0 100000 with _ | _
      · have h : movOk 5 n c l = false := by unfold movOk okN okC okP; simp [h1, h2, h3]
        rw [h]; clear h
        go_enter Tryz.func44, Tryz.ntmps44
        go_wp2_with (first | (go_at_call 60; refine (name_in (k := 5) (by omega) (by omega) (hN.below (alloc_below _ _) (Nat.le_refl _))).mono ?_; rintro e w' ⟨rfl, rfl⟩) | (go_at_call 45; refine (isPuts_any (hp.below (alloc_below _ _) (Nat.le_refl _))).mono ?_; rintro e w' ⟨rfl, hb⟩; obtain ⟨hbc, hbf⟩ := bcell hb) | (go_at_call 64; refine (small_any _ _).mono ?_; rintro e w' ⟨rfl, rfl⟩))
        go_ret
        exact ⟨rfl, (alloc_below _ _).trans (hb.mono (by simp))⟩
      · skip
        rcases h4 : (n == 0) with _ | _
        · have h : movOk 5 n c l = false := by unfold movOk okN okC okP; simp [h1, h2, h3, h4]
          rw [h]; clear h
          go_enter Tryz.func44, Tryz.ntmps44
          go_wp2_with (first | (go_at_call 60; refine (name_in (k := 5) (by omega) (by omega) (hN.below (alloc_below _ _) (Nat.le_refl _))).mono ?_; rintro e w' ⟨rfl, rfl⟩) | (go_at_call 45; refine (isPuts_any (hp.below (alloc_below _ _) (Nat.le_refl _))).mono ?_; rintro e w' ⟨rfl, hb⟩; obtain ⟨hbc, hbf⟩ := bcell hb) | (go_at_call 64; refine (small_any _ _).mono ?_; rintro e w' ⟨rfl, rfl⟩))
          go_ret
          exact ⟨rfl, (alloc_below _ _).trans (hb.mono (by simp))⟩
        · skip
          rcases h5 : (c == 0) with _ | _
          · have h : movOk 5 n c l = false := by unfold movOk okN okC okP; simp [h1, h2, h3, h4, h5]
            rw [h]; clear h
            go_enter Tryz.func44, Tryz.ntmps44
            go_wp2_with (first | (go_at_call 60; refine (name_in (k := 5) (by omega) (by omega) (hN.below (alloc_below _ _) (Nat.le_refl _))).mono ?_; rintro e w' ⟨rfl, rfl⟩) | (go_at_call 45; refine (isPuts_any (hp.below (alloc_below _ _) (Nat.le_refl _))).mono ?_; rintro e w' ⟨rfl, hb⟩; obtain ⟨hbc, hbf⟩ := bcell hb) | (go_at_call 64; refine (small_any _ _).mono ?_; rintro e w' ⟨rfl, rfl⟩))
            go_ret
            exact ⟨rfl, (alloc_below _ _).trans (hb.mono (by simp))⟩
          · skip
            have h : movOk 5 n c l = true := by unfold movOk okN okC okP; simp [h1, h2, h3, h4, h5]
            rw [h]; clear h
            go_enter Tryz.func44, Tryz.ntmps44
            go_wp2_with (first | (go_at_call 60; refine (name_in (k := 5) (by omega) (by omega) (hN.below (alloc_below _ _) (Nat.le_refl _))).mono ?_; rintro e w' ⟨rfl, rfl⟩) | (go_at_call 45; refine (isPuts_any (hp.below (alloc_below _ _) (Nat.le_refl _))).mono ?_; rintro e w' ⟨rfl, hb⟩; obtain ⟨hbc, hbf⟩ := bcell hb) | (go_at_call 64; refine (small_any _ _).mono ?_; rintro e w' ⟨rfl, rfl⟩))
            go_ret
            exact ⟨rfl, (alloc_below _ _).trans (hb.mono (by simp))⟩
end Go.Proofs.YtmaknbbijgihgaaGreatDoor
namespace Go.Proofs.YtmaknbbijgihgaaGreatDoor
open Go.RowKit
set_option maxHeartbeats 400000 in
theorem isMove_6 {n c : Int} {l : List PD} {v : Value} {w : World} (hp : PutsAt w v l) (hN : NamesAt w) :
    Calls Tryz.prog 44 #[.agg #[.int .i64 6, .int .i64 n, .int .i64 c, v]] w (BoolPost (movOk 6 n c l) w) := by
  obtain ⟨ao, b, off, cap, rfl, hq⟩ := hp
  have hp : PutsAt w (.slice ao l.length cap) l := ⟨ao, b, off, cap, rfl, hq⟩
  clear hq
  have hs : ¬ (nm 6).toList = [] := nm_ne (by omega) (by omega)
  have hs' : (nm 6).toList.isEmpty = false := by rw [List.isEmpty_eq_false_iff]; exact hs
  have hs2 : (!(nm 6).toList.isEmpty) = true := by rw [hs']; rfl
  rcases h1 : l.all PD.ok with _ | _
  · have h : movOk 6 n c l = false := by unfold movOk okN okC okP; simp [h1]
    rw [h]; clear h
    go_enter Tryz.func44, Tryz.ntmps44
    go_wp2_with (first | (go_at_call 60; refine (name_in (k := 6) (by omega) (by omega) (hN.below (alloc_below _ _) (Nat.le_refl _))).mono ?_; rintro e w' ⟨rfl, rfl⟩) | (go_at_call 45; refine (isPuts_any (hp.below (alloc_below _ _) (Nat.le_refl _))).mono ?_; rintro e w' ⟨rfl, hb⟩; obtain ⟨hbc, hbf⟩ := bcell hb) | (go_at_call 64; refine (small_any _ _).mono ?_; rintro e w' ⟨rfl, rfl⟩))
    go_ret
    exact ⟨rfl, (alloc_below _ _).trans (hb.mono (by simp))⟩
  · skip
    rcases h2 : inR n 0 100000 with _ | _
    · have h : movOk 6 n c l = false := by unfold movOk okN okC okP; simp [h1, h2]
      rw [h]; clear h
      go_enter Tryz.func44, Tryz.ntmps44
      go_wp2_with (first | (go_at_call 60; refine (name_in (k := 6) (by omega) (by omega) (hN.below (alloc_below _ _) (Nat.le_refl _))).mono ?_; rintro e w' ⟨rfl, rfl⟩) | (go_at_call 45; refine (isPuts_any (hp.below (alloc_below _ _) (Nat.le_refl _))).mono ?_; rintro e w' ⟨rfl, hb⟩; obtain ⟨hbc, hbf⟩ := bcell hb) | (go_at_call 64; refine (small_any _ _).mono ?_; rintro e w' ⟨rfl, rfl⟩))
      go_ret
      exact ⟨rfl, (alloc_below _ _).trans (hb.mono (by simp))⟩
    · skip
      rcases h3 : inR c 0 100000 with _ | _
      · have h : movOk 6 n c l = false := by unfold movOk okN okC okP; simp [h1, h2, h3]
        rw [h]; clear h
        go_enter Tryz.func44, Tryz.ntmps44
        go_wp2_with (first | (go_at_call 60; refine (name_in (k := 6) (by omega) (by omega) (hN.below (alloc_below _ _) (Nat.le_refl _))).mono ?_; rintro e w' ⟨rfl, rfl⟩) | (go_at_call 45; refine (isPuts_any (hp.below (alloc_below _ _) (Nat.le_refl _))).mono ?_; rintro e w' ⟨rfl, hb⟩; obtain ⟨hbc, hbf⟩ := bcell hb) | (go_at_call 64; refine (small_any _ _).mono ?_; rintro e w' ⟨rfl, rfl⟩))
        go_ret
        exact ⟨rfl, (alloc_below _ _).trans (hb.mono (by simp))⟩
      · skip
        rcases h4 : (n == 0) with _ | _
        · have h : movOk 6 n c l = false := by unfold movOk okN okC okP; simp [h1, h2, h3, h4]
          rw [h]; clear h
          go_enter Tryz.func44, Tryz.ntmps44
          go_wp2_with (first | (go_at_call 60; refine (name_in (k := 6) (by omega) (by omega) (hN.below (alloc_below _ _) (Nat.le_refl _))).mono ?_; rintro e w' ⟨rfl, rfl⟩) | (go_at_call 45; refine (isPuts_any (hp.below (alloc_below _ _) (Nat.le_refl _))).mono ?_; rintro e w' ⟨rfl, hb⟩; obtain ⟨hbc, hbf⟩ := bcell hb) | (go_at_call 64; refine (small_any _ _).mono ?_; rintro e w' ⟨rfl, rfl⟩))
          go_ret
          exact ⟨rfl, (alloc_below _ _).trans (hb.mono (by simp))⟩
        · skip
          rcases h5 : (c == 0) with _ | _
          · have h : movOk 6 n c l = false := by unfold movOk okN okC okP; simp [h1, h2, h3, h4, h5]
            rw [h]; clear h
            go_enter Tryz.func44, Tryz.ntmps44
            go_wp2_with (first | (go_at_call 60; refine (name_in (k := 6) (by omega) (by omega) (hN.below (alloc_below _ _) (Nat.le_refl _))).mono ?_; rintro e w' ⟨rfl, rfl⟩) | (go_at_call 45; refine (isPuts_any (hp.below (alloc_below _ _) (Nat.le_refl _))).mono ?_; rintro e w' ⟨rfl, hb⟩; obtain ⟨hbc, hbf⟩ := bcell hb) | (go_at_call 64; refine (small_any _ _).mono ?_; rintro e w' ⟨rfl, rfl⟩))
            go_ret
            exact ⟨rfl, (alloc_below _ _).trans (hb.mono (by simp))⟩
          · skip
            have h : movOk 6 n c l = true := by unfold movOk okN okC okP; simp [h1, h2, h3, h4, h5]
            rw [h]; clear h
            go_enter Tryz.func44, Tryz.ntmps44
            go_wp2_with (first | (go_at_call 60; refine (name_in (k := 6) (by omega) (by omega) (hN.below (alloc_below _ _) (Nat.le_refl _))).mono ?_; rintro e w' ⟨rfl, rfl⟩) | (go_at_call 45; refine (isPuts_any (hp.below (alloc_below _ _) (Nat.le_refl _))).mono ?_; rintro e w' ⟨rfl, hb⟩; obtain ⟨hbc, hbf⟩ := bcell hb) | (go_at_call 64; refine (small_any _ _).mono ?_; rintro e w' ⟨rfl, rfl⟩))
            go_ret
            exact ⟨rfl, (alloc_below _ _).trans (hb.mono (by simp))⟩
end Go.Proofs.YtmaknbbijgihgaaGreatDoor
namespace Go.Proofs.YtmaknbbijgihgaaGreatDoor
open Go.RowKit
set_option maxHeartbeats 400000 in
theorem isMove_7 {n c : Int} {l : List PD} {v : Value} {w : World} (hp : PutsAt w v l) (hN : NamesAt w) :
    Calls Tryz.prog 44 #[.agg #[.int .i64 7, .int .i64 n, .int .i64 c, v]] w (BoolPost (movOk 7 n c l) w) := by
  obtain ⟨ao, b, off, cap, rfl, hq⟩ := hp
  have hp : PutsAt w (.slice ao l.length cap) l := ⟨ao, b, off, cap, rfl, hq⟩
  clear hq
  have hs : ¬ (nm 7).toList = [] := nm_ne (by omega) (by omega)
  have hs' : (nm 7).toList.isEmpty = false := by rw [List.isEmpty_eq_false_iff]; exact hs
  have hs2 : (!(nm 7).toList.isEmpty) = true := by rw [hs']; rfl
  rcases h1 : l.all PD.ok with _ | _
  · have h : movOk 7 n c l = false := by unfold movOk okN okC okP; simp [h1]
    rw [h]; clear h
    go_enter Tryz.func44, Tryz.ntmps44
    go_wp2_with (first | (go_at_call 60; refine (name_in (k := 7) (by omega) (by omega) (hN.below (alloc_below _ _) (Nat.le_refl _))).mono ?_; rintro e w' ⟨rfl, rfl⟩) | (go_at_call 45; refine (isPuts_any (hp.below (alloc_below _ _) (Nat.le_refl _))).mono ?_; rintro e w' ⟨rfl, hb⟩; obtain ⟨hbc, hbf⟩ := bcell hb) | (go_at_call 64; refine (small_any _ _).mono ?_; rintro e w' ⟨rfl, rfl⟩))
    go_ret
    exact ⟨rfl, (alloc_below _ _).trans (hb.mono (by simp))⟩
  · skip
    rcases h2 : inR n 0 100000 with _ | _
    · have h : movOk 7 n c l = false := by unfold movOk okN okC okP; simp [h1, h2]
      rw [h]; clear h
      go_enter Tryz.func44, Tryz.ntmps44
      go_wp2_with (first | (go_at_call 60; refine (name_in (k := 7) (by omega) (by omega) (hN.below (alloc_below _ _) (Nat.le_refl _))).mono ?_; rintro e w' ⟨rfl, rfl⟩) | (go_at_call 45; refine (isPuts_any (hp.below (alloc_below _ _) (Nat.le_refl _))).mono ?_; rintro e w' ⟨rfl, hb⟩; obtain ⟨hbc, hbf⟩ := bcell hb) | (go_at_call 64; refine (small_any _ _).mono ?_; rintro e w' ⟨rfl, rfl⟩))
      go_ret
      exact ⟨rfl, (alloc_below _ _).trans (hb.mono (by simp))⟩
    · skip
      rcases h3 : inR c 0 100000 with _ | _
      · have h : movOk 7 n c l = false := by unfold movOk okN okC okP; simp [h1, h2, h3]
        rw [h]; clear h
        go_enter Tryz.func44, Tryz.ntmps44
        go_wp2_with (first | (go_at_call 60; refine (name_in (k := 7) (by omega) (by omega) (hN.below (alloc_below _ _) (Nat.le_refl _))).mono ?_; rintro e w' ⟨rfl, rfl⟩) | (go_at_call 45; refine (isPuts_any (hp.below (alloc_below _ _) (Nat.le_refl _))).mono ?_; rintro e w' ⟨rfl, hb⟩; obtain ⟨hbc, hbf⟩ := bcell hb) | (go_at_call 64; refine (small_any _ _).mono ?_; rintro e w' ⟨rfl, rfl⟩))
        go_ret
        exact ⟨rfl, (alloc_below _ _).trans (hb.mono (by simp))⟩
      · skip
        rcases h5 : (c == 0) with _ | _
        · have h : movOk 7 n c l = false := by unfold movOk okN okC okP; simp [h1, h2, h3, h5]
          rw [h]; clear h
          go_enter Tryz.func44, Tryz.ntmps44
          go_wp2_with (first | (go_at_call 60; refine (name_in (k := 7) (by omega) (by omega) (hN.below (alloc_below _ _) (Nat.le_refl _))).mono ?_; rintro e w' ⟨rfl, rfl⟩) | (go_at_call 45; refine (isPuts_any (hp.below (alloc_below _ _) (Nat.le_refl _))).mono ?_; rintro e w' ⟨rfl, hb⟩; obtain ⟨hbc, hbf⟩ := bcell hb) | (go_at_call 64; refine (small_any _ _).mono ?_; rintro e w' ⟨rfl, rfl⟩))
          go_ret
          exact ⟨rfl, (alloc_below _ _).trans (hb.mono (by simp))⟩
        · skip
          rcases h6 : ((l.length : Int) == 0) with _ | _
          · have h : movOk 7 n c l = false := by unfold movOk okN okC okP; simp [h1, h2, h3, h5, h6]
            rw [h]; clear h
            go_enter Tryz.func44, Tryz.ntmps44
            go_wp2_with (first | (go_at_call 60; refine (name_in (k := 7) (by omega) (by omega) (hN.below (alloc_below _ _) (Nat.le_refl _))).mono ?_; rintro e w' ⟨rfl, rfl⟩) | (go_at_call 45; refine (isPuts_any (hp.below (alloc_below _ _) (Nat.le_refl _))).mono ?_; rintro e w' ⟨rfl, hb⟩; obtain ⟨hbc, hbf⟩ := bcell hb) | (go_at_call 64; refine (small_any _ _).mono ?_; rintro e w' ⟨rfl, rfl⟩))
            go_ret
            exact ⟨rfl, (alloc_below _ _).trans (hb.mono (by simp))⟩
          · skip
            have h : movOk 7 n c l = true := by unfold movOk okN okC okP; simp [h1, h2, h3, h5, h6]
            rw [h]; clear h
            go_enter Tryz.func44, Tryz.ntmps44
            go_wp2_with (first | (go_at_call 60; refine (name_in (k := 7) (by omega) (by omega) (hN.below (alloc_below _ _) (Nat.le_refl _))).mono ?_; rintro e w' ⟨rfl, rfl⟩) | (go_at_call 45; refine (isPuts_any (hp.below (alloc_below _ _) (Nat.le_refl _))).mono ?_; rintro e w' ⟨rfl, hb⟩; obtain ⟨hbc, hbf⟩ := bcell hb) | (go_at_call 64; refine (small_any _ _).mono ?_; rintro e w' ⟨rfl, rfl⟩))
            go_ret
            exact ⟨rfl, (alloc_below _ _).trans (hb.mono (by simp))⟩
end Go.Proofs.YtmaknbbijgihgaaGreatDoor
