/- Proved here: contracts: moves and entries are formed, in the program and in the reference. Conditions: those of the row Rows.traceImagesRow (its listed variables as laid); none else. -/
import Derived.Test.YtmaknbbijgihgaaGreatDoorW2
import Derived.Test.YtmaknbbijgihgaaGreatDoorW3
import Derived.Test.YtmaknbbijgihgaaGreatDoorW4
set_option linter.all false
namespace Go.Proofs.YtmaknbbijgihgaaGreatDoor
open Go.RowKit
def movOkI (kind n c : Int) (l : List PD) : Bool := decide (1 ≤ kind ∧ kind ≤ 7) && movOk kind.toNat n c l
set_option maxHeartbeats 1000000 in
theorem isMove_any {kind n c : Int} {l : List PD} {v : Value} {w : World} (hp : PutsAt w v l) (hN : NamesAt w) :
    Calls Tryz.prog 44 #[.agg #[.int .i64 kind, .int .i64 n, .int .i64 c, v]] w (BoolPost (movOkI kind n c l) w) := by
  by_cases h : 1 ≤ kind ∧ kind ≤ 7
  · have hk : kind = 1 ∨ kind = 2 ∨ kind = 3 ∨ kind = 4 ∨ kind = 5 ∨ kind = 6 ∨ kind = 7 := by omega
    rcases hk with rfl | rfl | rfl | rfl | rfl | rfl | rfl
    · exact isMove_1 hp hN
    · exact isMove_2 hp hN
    · exact isMove_3 hp hN
    · exact isMove_4 hp hN
    · exact isMove_5 hp hN
    · exact isMove_6 hp hN
    · exact isMove_7 hp hN
  · have e : movOkI kind n c l = false := by unfold movOkI; rw [decide_eq_false h]; rfl
    rw [e]; clear e
    have H := Lib.hid h; clear h
    go_enter Tryz.func44, Tryz.ntmps44
    go_wp2_with (first | (go_at_call 60; refine (name_out H.out).mono ?_; rintro e w' ⟨rfl, rfl⟩))
    go_ret
    exact ⟨rfl, alloc_below _ _⟩
set_option maxHeartbeats 1000000 in
theorem rMove_any {kind n c : Int} {l : List PD} {v : Value} {w : World} (hp : PutsAt w v l) :
    Calls Tryz.prog 30 #[.agg #[.int .i64 kind, .int .i64 n, .int .i64 c, v]] w (BoolPost (movOkI kind n c l) w) := by
  by_cases h : 1 ≤ kind ∧ kind ≤ 7
  · have hk : kind = 1 ∨ kind = 2 ∨ kind = 3 ∨ kind = 4 ∨ kind = 5 ∨ kind = 6 ∨ kind = 7 := by omega
    rcases hk with rfl | rfl | rfl | rfl | rfl | rfl | rfl
    · exact rMove_1 hp
    · exact rMove_2 hp
    · exact rMove_3 hp
    · exact rMove_4 hp
    · exact rMove_5 hp
    · exact rMove_6 hp
    · exact rMove_7 hp
  · have e : movOkI kind n c l = false := by unfold movOkI; rw [decide_eq_false h]; rfl
    rw [e]; clear e
    obtain ⟨ao, b, off, cap, rfl, hq⟩ := hp
    clear hq
    have k1 : ¬ kind = 1 := by omega
    have k2 : ¬ kind = 2 := by omega
    have k3 : ¬ kind = 3 := by omega
    have k4 : ¬ kind = 4 := by omega
    have k5 : ¬ kind = 5 := by omega
    have k6 : ¬ kind = 6 := by omega
    have k7 : ¬ kind = 7 := by omega
    clear h
    go_enter Tryz.func30, Tryz.ntmps30
    go_wp2
    go_quiet (fail)
    go_wp2
    go_ret
    exact ⟨rfl, below_drewN (alloc_below _ _) _⟩
structure ED where
  kind : Int
  n : Int
  cost : Int
  puts : List PD
  j0 : Int
  j1 : Int
  j2 : Int
  j3 : Int
  err : Int
  mode : Int
  fault : Int
  puts2 : List PD
  deriving DecidableEq
def ED.ok (e : ED) : Bool := movOkI e.kind e.n e.cost e.puts && inR e.j0 0 7 && inR e.j1 0 1000000000 && inR e.j2 0 1000000000 && inR e.j3 0 1000000000 && inR e.err 0 99 && inR e.mode 1 3 && inR e.fault 0 3 && e.puts2.all PD.ok
def ED.val (e : ED) (v1 v2 : Value) : Value := .agg #[.int .i64 e.kind, .int .i64 e.n, .int .i64 e.cost, v1, .int .i64 e.j0, .int .i64 e.j1, .int .i64 e.j2, .int .i64 e.j3, .int .i64 e.err, .int .i64 e.mode, .int .i64 e.fault, v2]
theorem inR_no {n a b : Int} (h : ¬ (a ≤ n ∧ n ≤ b)) : inR n a b = false := decide_eq_false h
theorem inR_yes {n a b : Int} (h : a ≤ n ∧ n ≤ b) : inR n a b = true := decide_eq_true h
theorem alloc2_below (w : World) (o o' : Obj) : Below w.heap.size w ((w.alloc o).alloc o') := ((Below.refl _ _).alloc (Nat.le_refl _) _).alloc (by simp) _
end Go.Proofs.YtmaknbbijgihgaaGreatDoor
namespace Go.Proofs.YtmaknbbijgihgaaGreatDoor
open Go.RowKit
set_option maxHeartbeats 10000000 in
set_option maxRecDepth 100000 in
theorem isEntry_any {e : ED} {v1 v2 : Value} {w : World} (hp1 : PutsAt w v1 e.puts) (hp2 : PutsAt w v2 e.puts2) (hN : NamesAt w) :
    Calls Tryz.prog 21 #[e.val v1 v2] w (BoolPost e.ok w) := by
  obtain ⟨kind, n, cost, puts, j0, j1, j2, j3, err, mode, fault, puts2⟩ := e
  unfold ED.val
  simp only at hp1 hp2 ⊢
  rcases c0 : movOkI kind n cost puts with _ | _
  · skip
    have h : ED.ok ⟨kind, n, cost, puts, j0, j1, j2, j3, err, mode, fault, puts2⟩ = false := by unfold ED.ok; simp [c0]
    rw [h]; clear h
    go_enter Tryz.func21, Tryz.ntmps21
    go_wp2_with (first | (go_at_call 44; refine (isMove_any (hp1.below (alloc2_below _ _ _) (Nat.le_refl _)) (hN.below (alloc2_below _ _ _) (Nat.le_refl _))).mono ?_; rintro e' w' ⟨rfl, hb⟩; obtain ⟨hbc, hbf⟩ := bcell hb) | (go_at_call 43; refine (time_any _ _).mono ?_; rintro e' w'' ⟨rfl, rfl⟩) | (go_at_call 45; refine (isPuts_any (hp2.below ((alloc2_below _ _ _).trans (hb.mono (by simp; omega))) (Nat.le_refl _))).mono ?_; rintro e' w3 ⟨rfl, hb3⟩))
    go_ret
    exact ⟨rfl, (alloc2_below _ _ _).trans (hb.mono (by simp; omega))⟩
  · skip
    rcases Classical.em (0 ≤ j0) with c1 | c1
    rotate_left
    · skip
      have h : ED.ok ⟨kind, n, cost, puts, j0, j1, j2, j3, err, mode, fault, puts2⟩ = false := by unfold ED.ok; simp [inR_no (show ¬ (0 ≤ j0 ∧ j0 ≤ 7) by omega)]
      rw [h]; clear h
      go_enter Tryz.func21, Tryz.ntmps21
      go_wp2_with (first | (go_at_call 44; refine (isMove_any (hp1.below (alloc2_below _ _ _) (Nat.le_refl _)) (hN.below (alloc2_below _ _ _) (Nat.le_refl _))).mono ?_; rintro e' w' ⟨rfl, hb⟩; obtain ⟨hbc, hbf⟩ := bcell hb) | (go_at_call 43; refine (time_any _ _).mono ?_; rintro e' w'' ⟨rfl, rfl⟩) | (go_at_call 45; refine (isPuts_any (hp2.below ((alloc2_below _ _ _).trans (hb.mono (by simp; omega))) (Nat.le_refl _))).mono ?_; rintro e' w3 ⟨rfl, hb3⟩))
      go_ret
      exact ⟨rfl, (alloc2_below _ _ _).trans (hb.mono (by simp; omega))⟩
    · skip
      rcases Classical.em (j0 < 8) with c2 | c2
      rotate_left
      · skip
        have h : ED.ok ⟨kind, n, cost, puts, j0, j1, j2, j3, err, mode, fault, puts2⟩ = false := by unfold ED.ok; simp [inR_no (show ¬ (0 ≤ j0 ∧ j0 ≤ 7) by omega)]
        rw [h]; clear h
        go_enter Tryz.func21, Tryz.ntmps21
        go_wp2_with (first | (go_at_call 44; refine (isMove_any (hp1.below (alloc2_below _ _ _) (Nat.le_refl _)) (hN.below (alloc2_below _ _ _) (Nat.le_refl _))).mono ?_; rintro e' w' ⟨rfl, hb⟩; obtain ⟨hbc, hbf⟩ := bcell hb) | (go_at_call 43; refine (time_any _ _).mono ?_; rintro e' w'' ⟨rfl, rfl⟩) | (go_at_call 45; refine (isPuts_any (hp2.below ((alloc2_below _ _ _).trans (hb.mono (by simp; omega))) (Nat.le_refl _))).mono ?_; rintro e' w3 ⟨rfl, hb3⟩))
        go_ret
        exact ⟨rfl, (alloc2_below _ _ _).trans (hb.mono (by simp; omega))⟩
      · skip
        rcases c3 : inR j1 0 1000000000 with _ | _
        · skip
          have h : ED.ok ⟨kind, n, cost, puts, j0, j1, j2, j3, err, mode, fault, puts2⟩ = false := by unfold ED.ok; simp [c3]
          rw [h]; clear h
          go_enter Tryz.func21, Tryz.ntmps21
          go_wp2_with (first | (go_at_call 44; refine (isMove_any (hp1.below (alloc2_below _ _ _) (Nat.le_refl _)) (hN.below (alloc2_below _ _ _) (Nat.le_refl _))).mono ?_; rintro e' w' ⟨rfl, hb⟩; obtain ⟨hbc, hbf⟩ := bcell hb) | (go_at_call 43; refine (time_any _ _).mono ?_; rintro e' w'' ⟨rfl, rfl⟩) | (go_at_call 45; refine (isPuts_any (hp2.below ((alloc2_below _ _ _).trans (hb.mono (by simp; omega))) (Nat.le_refl _))).mono ?_; rintro e' w3 ⟨rfl, hb3⟩))
          go_ret
          exact ⟨rfl, (alloc2_below _ _ _).trans (hb.mono (by simp; omega))⟩
        · skip
          rcases c4 : inR j2 0 1000000000 with _ | _
          · skip
            have h : ED.ok ⟨kind, n, cost, puts, j0, j1, j2, j3, err, mode, fault, puts2⟩ = false := by unfold ED.ok; simp [c4]
            rw [h]; clear h
            go_enter Tryz.func21, Tryz.ntmps21
            go_wp2_with (first | (go_at_call 44; refine (isMove_any (hp1.below (alloc2_below _ _ _) (Nat.le_refl _)) (hN.below (alloc2_below _ _ _) (Nat.le_refl _))).mono ?_; rintro e' w' ⟨rfl, hb⟩; obtain ⟨hbc, hbf⟩ := bcell hb) | (go_at_call 43; refine (time_any _ _).mono ?_; rintro e' w'' ⟨rfl, rfl⟩) | (go_at_call 45; refine (isPuts_any (hp2.below ((alloc2_below _ _ _).trans (hb.mono (by simp; omega))) (Nat.le_refl _))).mono ?_; rintro e' w3 ⟨rfl, hb3⟩))
            go_ret
            exact ⟨rfl, (alloc2_below _ _ _).trans (hb.mono (by simp; omega))⟩
          · skip
            rcases c5 : inR j3 0 1000000000 with _ | _
            · skip
              have h : ED.ok ⟨kind, n, cost, puts, j0, j1, j2, j3, err, mode, fault, puts2⟩ = false := by unfold ED.ok; simp [c5]
              rw [h]; clear h
              go_enter Tryz.func21, Tryz.ntmps21
              go_wp2_with (first | (go_at_call 44; refine (isMove_any (hp1.below (alloc2_below _ _ _) (Nat.le_refl _)) (hN.below (alloc2_below _ _ _) (Nat.le_refl _))).mono ?_; rintro e' w' ⟨rfl, hb⟩; obtain ⟨hbc, hbf⟩ := bcell hb) | (go_at_call 43; refine (time_any _ _).mono ?_; rintro e' w'' ⟨rfl, rfl⟩) | (go_at_call 45; refine (isPuts_any (hp2.below ((alloc2_below _ _ _).trans (hb.mono (by simp; omega))) (Nat.le_refl _))).mono ?_; rintro e' w3 ⟨rfl, hb3⟩))
              go_ret
              exact ⟨rfl, (alloc2_below _ _ _).trans (hb.mono (by simp; omega))⟩
            · skip
              rcases Classical.em (0 ≤ err) with c6 | c6
              rotate_left
              · skip
                have h : ED.ok ⟨kind, n, cost, puts, j0, j1, j2, j3, err, mode, fault, puts2⟩ = false := by unfold ED.ok; simp [inR_no (show ¬ (0 ≤ err ∧ err ≤ 99) by omega)]
                rw [h]; clear h
                go_enter Tryz.func21, Tryz.ntmps21
                go_wp2_with (first | (go_at_call 44; refine (isMove_any (hp1.below (alloc2_below _ _ _) (Nat.le_refl _)) (hN.below (alloc2_below _ _ _) (Nat.le_refl _))).mono ?_; rintro e' w' ⟨rfl, hb⟩; obtain ⟨hbc, hbf⟩ := bcell hb) | (go_at_call 43; refine (time_any _ _).mono ?_; rintro e' w'' ⟨rfl, rfl⟩) | (go_at_call 45; refine (isPuts_any (hp2.below ((alloc2_below _ _ _).trans (hb.mono (by simp; omega))) (Nat.le_refl _))).mono ?_; rintro e' w3 ⟨rfl, hb3⟩))
                go_ret
                exact ⟨rfl, (alloc2_below _ _ _).trans (hb.mono (by simp; omega))⟩
              · skip
                rcases Classical.em (err ≤ 99) with c7 | c7
                rotate_left
                · skip
                  have h : ED.ok ⟨kind, n, cost, puts, j0, j1, j2, j3, err, mode, fault, puts2⟩ = false := by unfold ED.ok; simp [inR_no (show ¬ (0 ≤ err ∧ err ≤ 99) by omega)]
                  rw [h]; clear h
                  go_enter Tryz.func21, Tryz.ntmps21
                  go_wp2_with (first | (go_at_call 44; refine (isMove_any (hp1.below (alloc2_below _ _ _) (Nat.le_refl _)) (hN.below (alloc2_below _ _ _) (Nat.le_refl _))).mono ?_; rintro e' w' ⟨rfl, hb⟩; obtain ⟨hbc, hbf⟩ := bcell hb) | (go_at_call 43; refine (time_any _ _).mono ?_; rintro e' w'' ⟨rfl, rfl⟩) | (go_at_call 45; refine (isPuts_any (hp2.below ((alloc2_below _ _ _).trans (hb.mono (by simp; omega))) (Nat.le_refl _))).mono ?_; rintro e' w3 ⟨rfl, hb3⟩))
                  go_ret
                  exact ⟨rfl, (alloc2_below _ _ _).trans (hb.mono (by simp; omega))⟩
                · skip
                  rcases Classical.em (1 ≤ mode) with c8 | c8
                  rotate_left
                  · skip
                    have h : ED.ok ⟨kind, n, cost, puts, j0, j1, j2, j3, err, mode, fault, puts2⟩ = false := by unfold ED.ok; simp [inR_no (show ¬ (1 ≤ mode ∧ mode ≤ 3) by omega)]
                    rw [h]; clear h
                    go_enter Tryz.func21, Tryz.ntmps21
                    go_wp2_with (first | (go_at_call 44; refine (isMove_any (hp1.below (alloc2_below _ _ _) (Nat.le_refl _)) (hN.below (alloc2_below _ _ _) (Nat.le_refl _))).mono ?_; rintro e' w' ⟨rfl, hb⟩; obtain ⟨hbc, hbf⟩ := bcell hb) | (go_at_call 43; refine (time_any _ _).mono ?_; rintro e' w'' ⟨rfl, rfl⟩) | (go_at_call 45; refine (isPuts_any (hp2.below ((alloc2_below _ _ _).trans (hb.mono (by simp; omega))) (Nat.le_refl _))).mono ?_; rintro e' w3 ⟨rfl, hb3⟩))
                    go_ret
                    exact ⟨rfl, (alloc2_below _ _ _).trans (hb.mono (by simp; omega))⟩
                  · skip
                    rcases Classical.em (mode ≤ 3) with c9 | c9
                    rotate_left
                    · skip
                      have h : ED.ok ⟨kind, n, cost, puts, j0, j1, j2, j3, err, mode, fault, puts2⟩ = false := by unfold ED.ok; simp [inR_no (show ¬ (1 ≤ mode ∧ mode ≤ 3) by omega)]
                      rw [h]; clear h
                      go_enter Tryz.func21, Tryz.ntmps21
                      go_wp2_with (first | (go_at_call 44; refine (isMove_any (hp1.below (alloc2_below _ _ _) (Nat.le_refl _)) (hN.below (alloc2_below _ _ _) (Nat.le_refl _))).mono ?_; rintro e' w' ⟨rfl, hb⟩; obtain ⟨hbc, hbf⟩ := bcell hb) | (go_at_call 43; refine (time_any _ _).mono ?_; rintro e' w'' ⟨rfl, rfl⟩) | (go_at_call 45; refine (isPuts_any (hp2.below ((alloc2_below _ _ _).trans (hb.mono (by simp; omega))) (Nat.le_refl _))).mono ?_; rintro e' w3 ⟨rfl, hb3⟩))
                      go_ret
                      exact ⟨rfl, (alloc2_below _ _ _).trans (hb.mono (by simp; omega))⟩
                    · skip
                      rcases Classical.em (0 ≤ fault) with c10 | c10
                      rotate_left
                      · skip
                        have h : ED.ok ⟨kind, n, cost, puts, j0, j1, j2, j3, err, mode, fault, puts2⟩ = false := by unfold ED.ok; simp [inR_no (show ¬ (0 ≤ fault ∧ fault ≤ 3) by omega)]
                        rw [h]; clear h
                        go_enter Tryz.func21, Tryz.ntmps21
                        go_wp2_with (first | (go_at_call 44; refine (isMove_any (hp1.below (alloc2_below _ _ _) (Nat.le_refl _)) (hN.below (alloc2_below _ _ _) (Nat.le_refl _))).mono ?_; rintro e' w' ⟨rfl, hb⟩; obtain ⟨hbc, hbf⟩ := bcell hb) | (go_at_call 43; refine (time_any _ _).mono ?_; rintro e' w'' ⟨rfl, rfl⟩) | (go_at_call 45; refine (isPuts_any (hp2.below ((alloc2_below _ _ _).trans (hb.mono (by simp; omega))) (Nat.le_refl _))).mono ?_; rintro e' w3 ⟨rfl, hb3⟩))
                        go_ret
                        exact ⟨rfl, (alloc2_below _ _ _).trans (hb.mono (by simp; omega))⟩
                      · skip
                        rcases Classical.em (fault ≤ 3) with c11 | c11
                        rotate_left
                        · skip
                          have h : ED.ok ⟨kind, n, cost, puts, j0, j1, j2, j3, err, mode, fault, puts2⟩ = false := by unfold ED.ok; simp [inR_no (show ¬ (0 ≤ fault ∧ fault ≤ 3) by omega)]
                          rw [h]; clear h
                          go_enter Tryz.func21, Tryz.ntmps21
                          go_wp2_with (first | (go_at_call 44; refine (isMove_any (hp1.below (alloc2_below _ _ _) (Nat.le_refl _)) (hN.below (alloc2_below _ _ _) (Nat.le_refl _))).mono ?_; rintro e' w' ⟨rfl, hb⟩; obtain ⟨hbc, hbf⟩ := bcell hb) | (go_at_call 43; refine (time_any _ _).mono ?_; rintro e' w'' ⟨rfl, rfl⟩) | (go_at_call 45; refine (isPuts_any (hp2.below ((alloc2_below _ _ _).trans (hb.mono (by simp; omega))) (Nat.le_refl _))).mono ?_; rintro e' w3 ⟨rfl, hb3⟩))
                          go_ret
                          exact ⟨rfl, (alloc2_below _ _ _).trans (hb.mono (by simp; omega))⟩
                        · skip
                          rcases c12 : puts2.all PD.ok with _ | _
                          · skip
                            have h : ED.ok ⟨kind, n, cost, puts, j0, j1, j2, j3, err, mode, fault, puts2⟩ = false := by unfold ED.ok; simp [c12]
                            rw [h]; clear h
                            go_enter Tryz.func21, Tryz.ntmps21
                            go_wp2_with (first | (go_at_call 44; refine (isMove_any (hp1.below (alloc2_below _ _ _) (Nat.le_refl _)) (hN.below (alloc2_below _ _ _) (Nat.le_refl _))).mono ?_; rintro e' w' ⟨rfl, hb⟩; obtain ⟨hbc, hbf⟩ := bcell hb) | (go_at_call 43; refine (time_any _ _).mono ?_; rintro e' w'' ⟨rfl, rfl⟩) | (go_at_call 45; refine (isPuts_any (hp2.below ((alloc2_below _ _ _).trans (hb.mono (by simp; omega))) (Nat.le_refl _))).mono ?_; rintro e' w3 ⟨rfl, hb3⟩))
                            go_ret
                            exact ⟨rfl, ((alloc2_below _ _ _).trans (hb.mono (by simp; omega))).trans (hb3.mono (by have := hb.size; simp at this; omega))⟩
                          · skip
                            have h : ED.ok ⟨kind, n, cost, puts, j0, j1, j2, j3, err, mode, fault, puts2⟩ = true := by unfold ED.ok; simp [c0, c3, c4, c5, c12, inR_yes (show 0 ≤ j0 ∧ j0 ≤ 7 by omega), inR_yes (show 0 ≤ err ∧ err ≤ 99 by omega), inR_yes (show 1 ≤ mode ∧ mode ≤ 3 by omega), inR_yes (show 0 ≤ fault ∧ fault ≤ 3 by omega)]
                            rw [h]; clear h
                            go_enter Tryz.func21, Tryz.ntmps21
                            go_wp2_with (first | (go_at_call 44; refine (isMove_any (hp1.below (alloc2_below _ _ _) (Nat.le_refl _)) (hN.below (alloc2_below _ _ _) (Nat.le_refl _))).mono ?_; rintro e' w' ⟨rfl, hb⟩; obtain ⟨hbc, hbf⟩ := bcell hb) | (go_at_call 43; refine (time_any _ _).mono ?_; rintro e' w'' ⟨rfl, rfl⟩) | (go_at_call 45; refine (isPuts_any (hp2.below ((alloc2_below _ _ _).trans (hb.mono (by simp; omega))) (Nat.le_refl _))).mono ?_; rintro e' w3 ⟨rfl, hb3⟩))
                            go_ret
                            exact ⟨rfl, ((alloc2_below _ _ _).trans (hb.mono (by simp; omega))).trans (hb3.mono (by have := hb.size; simp at this; omega))⟩
end Go.Proofs.YtmaknbbijgihgaaGreatDoor
namespace Go.Proofs.YtmaknbbijgihgaaGreatDoor
open Go.RowKit
set_option maxHeartbeats 10000000 in
set_option maxRecDepth 100000 in
theorem rEntry_any {e : ED} {v1 v2 : Value} {w : World} (hp1 : PutsAt w v1 e.puts) (hp2 : PutsAt w v2 e.puts2) :
    Calls Tryz.prog 14 #[e.val v1 v2] w (BoolPost e.ok w) := by
  obtain ⟨kind, n, cost, puts, j0, j1, j2, j3, err, mode, fault, puts2⟩ := e
  unfold ED.val
  simp only at hp1 hp2 ⊢
  rcases c0 : movOkI kind n cost puts with _ | _
  · skip
    have h : ED.ok ⟨kind, n, cost, puts, j0, j1, j2, j3, err, mode, fault, puts2⟩ = false := by unfold ED.ok; simp [c0]
    rw [h]; clear h
    go_enter Tryz.func14, Tryz.ntmps14
    go_wp2_with (first | (go_at_call 30; refine (rMove_any (hp1.below (alloc2_below _ _ _) (Nat.le_refl _))).mono ?_; rintro e' w' ⟨rfl, hb⟩; obtain ⟨hbc, hbf⟩ := bcell hb) | (go_at_call 31; refine (within_any _ _ _ _).mono ?_; rintro e' w'' ⟨rfl, rfl⟩) | (go_at_call 32; refine (rputs_any (hp2.below ((alloc2_below _ _ _).trans (hb.mono (by simp; omega))) (Nat.le_refl _))).mono ?_; rintro e' w3 ⟨rfl, hb3⟩))
    go_ret
    exact ⟨rfl, (alloc2_below _ _ _).trans (hb.mono (by simp; omega))⟩
  · skip
    rcases c1 : inR j0 0 7 with _ | _
    · skip
      have h : ED.ok ⟨kind, n, cost, puts, j0, j1, j2, j3, err, mode, fault, puts2⟩ = false := by unfold ED.ok; simp [c1]
      rw [h]; clear h
      go_enter Tryz.func14, Tryz.ntmps14
      go_wp2_with (first | (go_at_call 30; refine (rMove_any (hp1.below (alloc2_below _ _ _) (Nat.le_refl _))).mono ?_; rintro e' w' ⟨rfl, hb⟩; obtain ⟨hbc, hbf⟩ := bcell hb) | (go_at_call 31; refine (within_any _ _ _ _).mono ?_; rintro e' w'' ⟨rfl, rfl⟩) | (go_at_call 32; refine (rputs_any (hp2.below ((alloc2_below _ _ _).trans (hb.mono (by simp; omega))) (Nat.le_refl _))).mono ?_; rintro e' w3 ⟨rfl, hb3⟩))
      go_ret
      exact ⟨rfl, (alloc2_below _ _ _).trans (hb.mono (by simp; omega))⟩
    · skip
      rcases c3 : inR j1 0 1000000000 with _ | _
      · skip
        have h : ED.ok ⟨kind, n, cost, puts, j0, j1, j2, j3, err, mode, fault, puts2⟩ = false := by unfold ED.ok; simp [c3]
        rw [h]; clear h
        go_enter Tryz.func14, Tryz.ntmps14
        go_wp2_with (first | (go_at_call 30; refine (rMove_any (hp1.below (alloc2_below _ _ _) (Nat.le_refl _))).mono ?_; rintro e' w' ⟨rfl, hb⟩; obtain ⟨hbc, hbf⟩ := bcell hb) | (go_at_call 31; refine (within_any _ _ _ _).mono ?_; rintro e' w'' ⟨rfl, rfl⟩) | (go_at_call 32; refine (rputs_any (hp2.below ((alloc2_below _ _ _).trans (hb.mono (by simp; omega))) (Nat.le_refl _))).mono ?_; rintro e' w3 ⟨rfl, hb3⟩))
        go_ret
        exact ⟨rfl, (alloc2_below _ _ _).trans (hb.mono (by simp; omega))⟩
      · skip
        rcases c4 : inR j2 0 1000000000 with _ | _
        · skip
          have h : ED.ok ⟨kind, n, cost, puts, j0, j1, j2, j3, err, mode, fault, puts2⟩ = false := by unfold ED.ok; simp [c4]
          rw [h]; clear h
          go_enter Tryz.func14, Tryz.ntmps14
          go_wp2_with (first | (go_at_call 30; refine (rMove_any (hp1.below (alloc2_below _ _ _) (Nat.le_refl _))).mono ?_; rintro e' w' ⟨rfl, hb⟩; obtain ⟨hbc, hbf⟩ := bcell hb) | (go_at_call 31; refine (within_any _ _ _ _).mono ?_; rintro e' w'' ⟨rfl, rfl⟩) | (go_at_call 32; refine (rputs_any (hp2.below ((alloc2_below _ _ _).trans (hb.mono (by simp; omega))) (Nat.le_refl _))).mono ?_; rintro e' w3 ⟨rfl, hb3⟩))
          go_ret
          exact ⟨rfl, (alloc2_below _ _ _).trans (hb.mono (by simp; omega))⟩
        · skip
          rcases c5 : inR j3 0 1000000000 with _ | _
          · skip
            have h : ED.ok ⟨kind, n, cost, puts, j0, j1, j2, j3, err, mode, fault, puts2⟩ = false := by unfold ED.ok; simp [c5]
            rw [h]; clear h
            go_enter Tryz.func14, Tryz.ntmps14
            go_wp2_with (first | (go_at_call 30; refine (rMove_any (hp1.below (alloc2_below _ _ _) (Nat.le_refl _))).mono ?_; rintro e' w' ⟨rfl, hb⟩; obtain ⟨hbc, hbf⟩ := bcell hb) | (go_at_call 31; refine (within_any _ _ _ _).mono ?_; rintro e' w'' ⟨rfl, rfl⟩) | (go_at_call 32; refine (rputs_any (hp2.below ((alloc2_below _ _ _).trans (hb.mono (by simp; omega))) (Nat.le_refl _))).mono ?_; rintro e' w3 ⟨rfl, hb3⟩))
            go_ret
            exact ⟨rfl, (alloc2_below _ _ _).trans (hb.mono (by simp; omega))⟩
          · skip
            rcases c6 : inR err 0 99 with _ | _
            · skip
              have h : ED.ok ⟨kind, n, cost, puts, j0, j1, j2, j3, err, mode, fault, puts2⟩ = false := by unfold ED.ok; simp [c6]
              rw [h]; clear h
              go_enter Tryz.func14, Tryz.ntmps14
              go_wp2_with (first | (go_at_call 30; refine (rMove_any (hp1.below (alloc2_below _ _ _) (Nat.le_refl _))).mono ?_; rintro e' w' ⟨rfl, hb⟩; obtain ⟨hbc, hbf⟩ := bcell hb) | (go_at_call 31; refine (within_any _ _ _ _).mono ?_; rintro e' w'' ⟨rfl, rfl⟩) | (go_at_call 32; refine (rputs_any (hp2.below ((alloc2_below _ _ _).trans (hb.mono (by simp; omega))) (Nat.le_refl _))).mono ?_; rintro e' w3 ⟨rfl, hb3⟩))
              go_ret
              exact ⟨rfl, (alloc2_below _ _ _).trans (hb.mono (by simp; omega))⟩
            · skip
              rcases c7 : inR mode 1 3 with _ | _
              · skip
                have h : ED.ok ⟨kind, n, cost, puts, j0, j1, j2, j3, err, mode, fault, puts2⟩ = false := by unfold ED.ok; simp [c7]
                rw [h]; clear h
                go_enter Tryz.func14, Tryz.ntmps14
                go_wp2_with (first | (go_at_call 30; refine (rMove_any (hp1.below (alloc2_below _ _ _) (Nat.le_refl _))).mono ?_; rintro e' w' ⟨rfl, hb⟩; obtain ⟨hbc, hbf⟩ := bcell hb) | (go_at_call 31; refine (within_any _ _ _ _).mono ?_; rintro e' w'' ⟨rfl, rfl⟩) | (go_at_call 32; refine (rputs_any (hp2.below ((alloc2_below _ _ _).trans (hb.mono (by simp; omega))) (Nat.le_refl _))).mono ?_; rintro e' w3 ⟨rfl, hb3⟩))
                go_ret
                exact ⟨rfl, (alloc2_below _ _ _).trans (hb.mono (by simp; omega))⟩
              · skip
                rcases c8 : inR fault 0 3 with _ | _
                · skip
                  have h : ED.ok ⟨kind, n, cost, puts, j0, j1, j2, j3, err, mode, fault, puts2⟩ = false := by unfold ED.ok; simp [c8]
                  rw [h]; clear h
                  go_enter Tryz.func14, Tryz.ntmps14
                  go_wp2_with (first | (go_at_call 30; refine (rMove_any (hp1.below (alloc2_below _ _ _) (Nat.le_refl _))).mono ?_; rintro e' w' ⟨rfl, hb⟩; obtain ⟨hbc, hbf⟩ := bcell hb) | (go_at_call 31; refine (within_any _ _ _ _).mono ?_; rintro e' w'' ⟨rfl, rfl⟩) | (go_at_call 32; refine (rputs_any (hp2.below ((alloc2_below _ _ _).trans (hb.mono (by simp; omega))) (Nat.le_refl _))).mono ?_; rintro e' w3 ⟨rfl, hb3⟩))
                  go_ret
                  exact ⟨rfl, (alloc2_below _ _ _).trans (hb.mono (by simp; omega))⟩
                · skip
                  rcases c12 : puts2.all PD.ok with _ | _
                  · skip
                    have h : ED.ok ⟨kind, n, cost, puts, j0, j1, j2, j3, err, mode, fault, puts2⟩ = false := by unfold ED.ok; simp [c12]
                    rw [h]; clear h
                    go_enter Tryz.func14, Tryz.ntmps14
                    go_wp2_with (first | (go_at_call 30; refine (rMove_any (hp1.below (alloc2_below _ _ _) (Nat.le_refl _))).mono ?_; rintro e' w' ⟨rfl, hb⟩; obtain ⟨hbc, hbf⟩ := bcell hb) | (go_at_call 31; refine (within_any _ _ _ _).mono ?_; rintro e' w'' ⟨rfl, rfl⟩) | (go_at_call 32; refine (rputs_any (hp2.below ((alloc2_below _ _ _).trans (hb.mono (by simp; omega))) (Nat.le_refl _))).mono ?_; rintro e' w3 ⟨rfl, hb3⟩))
                    go_ret
                    exact ⟨rfl, ((alloc2_below _ _ _).trans (hb.mono (by simp; omega))).trans (hb3.mono (by have := hb.size; simp at this; omega))⟩
                  · skip
                    have h : ED.ok ⟨kind, n, cost, puts, j0, j1, j2, j3, err, mode, fault, puts2⟩ = true := by unfold ED.ok; simp [c0, c1, c3, c4, c5, c6, c7, c8, c12]
                    rw [h]; clear h
                    go_enter Tryz.func14, Tryz.ntmps14
                    go_wp2_with (first | (go_at_call 30; refine (rMove_any (hp1.below (alloc2_below _ _ _) (Nat.le_refl _))).mono ?_; rintro e' w' ⟨rfl, hb⟩; obtain ⟨hbc, hbf⟩ := bcell hb) | (go_at_call 31; refine (within_any _ _ _ _).mono ?_; rintro e' w'' ⟨rfl, rfl⟩) | (go_at_call 32; refine (rputs_any (hp2.below ((alloc2_below _ _ _).trans (hb.mono (by simp; omega))) (Nat.le_refl _))).mono ?_; rintro e' w3 ⟨rfl, hb3⟩))
                    go_ret
                    exact ⟨rfl, ((alloc2_below _ _ _).trans (hb.mono (by simp; omega))).trans (hb3.mono (by have := hb.size; simp at this; omega))⟩
end Go.Proofs.YtmaknbbijgihgaaGreatDoor
namespace Go.Proofs.YtmaknbbijgihgaaGreatDoor
open Go.RowKit
/-- The cells of entries. -/
def EntCells (w : World) (b off : Nat) (es : List ED) : Prop := ∀ i (h : i < es.length), ∃ v1 v2, PutsAt w v1 es[i].puts ∧ PutsAt w v2 es[i].puts2 ∧
  w.cell? ⟨b, off + i * 12, none⟩ = some (.int .i64 es[i].kind) ∧ w.cell? ⟨b, off + i * 12 + 1, none⟩ = some (.int .i64 es[i].n) ∧ w.cell? ⟨b, off + i * 12 + 2, none⟩ = some (.int .i64 es[i].cost) ∧ w.cell? ⟨b, off + i * 12 + 3, none⟩ = some v1 ∧
  w.cell? ⟨b, off + i * 12 + 4, none⟩ = some (.int .i64 es[i].j0) ∧ w.cell? ⟨b, off + i * 12 + 5, none⟩ = some (.int .i64 es[i].j1) ∧ w.cell? ⟨b, off + i * 12 + 6, none⟩ = some (.int .i64 es[i].j2) ∧ w.cell? ⟨b, off + i * 12 + 7, none⟩ = some (.int .i64 es[i].j3) ∧
  w.cell? ⟨b, off + i * 12 + 8, none⟩ = some (.int .i64 es[i].err) ∧ w.cell? ⟨b, off + i * 12 + 9, none⟩ = some (.int .i64 es[i].mode) ∧ w.cell? ⟨b, off + i * 12 + 10, none⟩ = some (.int .i64 es[i].fault) ∧ w.cell? ⟨b, off + i * 12 + 11, none⟩ = some v2
theorem cell_below {B : Nat} {w w' : World} {b o : Nat} {x : Value} (h : w.cell? ⟨b, o, none⟩ = some x) (hb : Below B w w') (hB : w.heap.size ≤ B) : w'.cell? ⟨b, o, none⟩ = some x := by
  rw [hb.cell (p := ⟨b, o, none⟩) (Nat.lt_of_lt_of_le (World.block_lt_of_cell? w ⟨b, o, none⟩ h) hB)]; exact h
theorem EntCells.below {B : Nat} {w w' : World} {b off : Nat} {es : List ED} (h : EntCells w b off es) (hb : Below B w w') (hB : w.heap.size ≤ B) : EntCells w' b off es := by
  intro i hi
  obtain ⟨v1, v2, p1, p2, c0, c1, c2, c3, c4, c5, c6, c7, c8, c9, c10, c11⟩ := h i hi
  exact ⟨v1, v2, p1.below hb hB, p2.below hb hB, cell_below c0 hb hB, cell_below c1 hb hB, cell_below c2 hb hB, cell_below c3 hb hB, cell_below c4 hb hB, cell_below c5 hb hB, cell_below c6 hb hB, cell_below c7 hb hB, cell_below c8 hb hB, cell_below c9 hb hB, cell_below c10 hb hB, cell_below c11 hb hB⟩
def EntsAt (w : World) (v : Value) (es : List ED) : Prop := ∃ (ao : Option Addr) (b off cap : Nat), v = .slice ao es.length cap ∧ (es ≠ [] → ao = some ⟨b, off, none⟩) ∧ EntCells w b off es ∧ es.length ≤ maxLen
theorem EntsAt.below {B : Nat} {w w' : World} {v : Value} {es : List ED} (h : EntsAt w v es) (hb : Below B w w') (hB : w.heap.size ≤ B) : EntsAt w' v es := by
  obtain ⟨ao, b, off, cap, h1, h2, h3, h4⟩ := h
  exact ⟨ao, b, off, cap, h1, h2, h3.below hb hB, h4⟩
end Go.Proofs.YtmaknbbijgihgaaGreatDoor
