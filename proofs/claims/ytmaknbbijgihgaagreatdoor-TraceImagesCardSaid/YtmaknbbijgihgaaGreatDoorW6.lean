/- Proved here: contracts: lists of entries are formed; equality of entries. Conditions: those of the row Rows.traceImagesRow (its listed variables as laid); none else. -/
import Derived.Test.YtmaknbbijgihgaaGreatDoorW5
set_option linter.all false
namespace Go.Proofs.YtmaknbbijgihgaaGreatDoor
open Go.RowKit
set_option maxHeartbeats 1000000 in
theorem badEntry_any {e : ED} {v1 v2 : Value} {w : World} (hp1 : PutsAt w v1 e.puts) (hp2 : PutsAt w v2 e.puts2) (hN : NamesAt w) :
    Calls Tryz.prog 20 #[e.val v1 v2] w (BoolPost (!e.ok) w) := by
  have hcon := fun (W : World) (hb : Below w.heap.size w W) => isEntry_any (w := W) (hp1.below hb (Nat.le_refl _)) (hp2.below hb (Nat.le_refl _)) (hN.below hb (Nat.le_refl _))
  have HC := Lib.hid hcon; clear hcon
  unfold ED.val
  go_enter Tryz.func20, Tryz.ntmps20
  go_wp2_with (first | (go_at_call 21; refine (HC.out _ (alloc_below _ _)).mono ?_; rintro e' w' ⟨rfl, hb⟩))
  go_ret
  exact ⟨rfl, (alloc_below _ _).trans (hb.mono (by simp))⟩
set_option maxHeartbeats 1000000 in
theorem index20 {es : List ED} {v : Value} {w : World} (h : EntsAt w v es) (hN : NamesAt w) :
    Calls Tryz.prog 42 #[v, .func (.func 20) #[] #[]] w (IdxPost (es.all ED.ok) w) := by
  obtain ⟨ao, b, off, cap, rfl, ha, hc, hl⟩ := h
  have HA := Lib.hid ha; clear ha
  unfold maxLen at hl
  go_enter Tryz.func42, Tryz.ntmps42
  go_wp2
  go_loopw [8] (fun i wr => ∃ k : Nat, k ≤ es.length ∧ i = .int .i64 k ∧ Hid ((es.take k).all ED.ok = true) ∧ Below w.heap.size w wr) (fun i _ => es.length - (intOf i).toNat)
  case atStart => exact ⟨0, Nat.zero_le _, rfl, Lib.hid (by simp), Below.refl _ _⟩
  case round =>
    obtain ⟨k, hk, rfl, HT, hb⟩ := hrel
    by_cases hlt : k < es.length
    · obtain ⟨v1, v2, p1, p2, c0, c1, c2, c3, c4, c5, c6, c7, c8, c9, c10, c11⟩ := hc.below hb (Nat.le_refl _) k hlt
      have ha := HA.out (ne_nil_of hlt)
      clear HA
      subst ha
      have HC := Lib.hid (badEntry_any p1 p2 (hN.below hb (Nat.le_refl _)))
      rcases hp : es[k].ok with _ | _
      · go_wp2_with (first | (go_at_call 20; refine HC.out.mono ?_; rintro e w' ⟨rfl, hb2⟩))
        go_ret
        exact ⟨k, rfl, by rw [all_false hlt hp]; simp, hb.trans (hb2.mono hb.size)⟩
      · go_wp2_with (first | (go_at_call 20; refine HC.out.mono ?_; rintro e w' ⟨rfl, hb2⟩))
        go_roundw
        case rel => exact ⟨k + 1, by omega, by go_num, Lib.hid (by rw [all_take_succ hlt, HT.out]; exact hp), hb.trans (hb2.mono hb.size)⟩
        case measure => simp [intOf]; omega
    · go_wp2
      go_ret
      exact ⟨-1, rfl, by rw [List.take_of_length_le (by omega)] at HT; rw [HT.out]; simp, hb⟩
set_option maxHeartbeats 400000 in
theorem contains20 {es : List ED} {v : Value} {w : World} (h : EntsAt w v es) (hN : NamesAt w) :
    Calls Tryz.prog 19 #[v, .func (.func 20) #[] #[]] w (BoolPost (!es.all ED.ok) w) := by
  go_enter Tryz.func19, Tryz.ntmps19
  go_wp2_with (first | (go_at_call 42; refine (index20 h hN).mono ?_; rintro e w' ⟨n, rfl, hn, hb⟩))
  go_ret
  exact ⟨rfl, hb⟩
/-- What 'Check' says. -/
def entsOk (es : List ED) : Bool := decide (es.length ≤ 300) && es.all ED.ok
set_option maxHeartbeats 400000 in
theorem check_any {es : List ED} {v : Value} {w : World} (h : EntsAt w v es) (hN : NamesAt w) :
    Calls Tryz.prog 10 #[v] w fun e w' => e = .returned (.int .i64 (if entsOk es = true then 0 else 2)) ∧ Below w.heap.size w w' := by
  obtain ⟨ao, b, off, cap, rfl, hq⟩ := h
  have h : EntsAt w (.slice ao es.length cap) es := ⟨ao, b, off, cap, rfl, hq⟩
  clear hq
  by_cases hl : es.length ≤ 300
  · rcases ho : es.all ED.ok with _ | _
    · have e : (if entsOk es = true then (0 : Int) else 2) = 2 := by unfold entsOk; rw [ho]; simp
      rw [e]; clear e
      go_enter Tryz.func10, Tryz.ntmps10
      go_wp2_with (first | (go_at_call 19; refine (contains20 h hN).mono ?_; rintro e w' ⟨rfl, hb⟩))
      go_ret
      exact ⟨rfl, hb⟩
    · have e : (if entsOk es = true then (0 : Int) else 2) = 0 := by unfold entsOk; rw [ho, decide_eq_true hl]; rfl
      rw [e]; clear e
      go_enter Tryz.func10, Tryz.ntmps10
      go_wp2_with (first | (go_at_call 19; refine (contains20 h hN).mono ?_; rintro e w' ⟨rfl, hb⟩))
      go_ret
      exact ⟨rfl, hb⟩
  · have e : (if entsOk es = true then (0 : Int) else 2) = 2 := by unfold entsOk; rw [decide_eq_false hl]; rfl
    rw [e]; clear e
    go_enter Tryz.func10, Tryz.ntmps10
    go_wp2
    go_ret
    exact ⟨rfl, Below.refl _ _⟩
set_option maxHeartbeats 1000000 in
theorem rentries_any {es : List ED} {v : Value} {w : World} (h : EntsAt w v es) :
    Calls Tryz.prog 7 #[v] w (BoolPost (entsOk es) w) := by
  obtain ⟨ao, b, off, cap, rfl, ha, hc, hl⟩ := h
  have HA := Lib.hid ha; clear ha
  unfold maxLen at hl
  by_cases hle : es.length ≤ 300
  · have hd : decide ((es.length : Int) ≤ 300) = true := decide_eq_true (by omega)
    go_enter Tryz.func7, Tryz.ntmps7
    go_wp2
    go_loopw [3] (fun i wr => ∃ k : Nat, k ≤ es.length ∧ i = .int .i64 k ∧ Hid ((es.take k).all ED.ok = true) ∧ Below w.heap.size w wr) (fun i _ => es.length - (intOf i).toNat)
    case atStart => exact ⟨0, Nat.zero_le _, rfl, Lib.hid (by simp), Below.refl _ _⟩
    case round =>
      obtain ⟨k, hk, rfl, HT, hb⟩ := hrel
      by_cases hlt : k < es.length
      · obtain ⟨v1, v2, p1, p2, c0, c1, c2, c3, c4, c5, c6, c7, c8, c9, c10, c11⟩ := hc.below hb (Nat.le_refl _) k hlt
        have ha := HA.out (ne_nil_of hlt)
        clear HA
        subst ha
        have HC := Lib.hid (rEntry_any p1 p2)
        rcases hp : es[k].ok with _ | _
        · go_wp2_with (first | (go_at_call 14; refine HC.out.mono ?_; rintro e w' ⟨rfl, hb2⟩))
          go_ret
          exact ⟨by unfold entsOk; rw [all_false hlt hp]; simp, hb.trans (hb2.mono hb.size)⟩
        · go_wp2_with (first | (go_at_call 14; refine HC.out.mono ?_; rintro e w' ⟨rfl, hb2⟩))
          go_roundw
          case rel => exact ⟨k + 1, by omega, by go_num, Lib.hid (by rw [all_take_succ hlt, HT.out]; exact hp), hb.trans (hb2.mono hb.size)⟩
          case measure => simp [intOf]; omega
      · go_wp2
        go_ret
        have hE : entsOk es = true := by rw [List.take_of_length_le (by omega)] at HT; unfold entsOk; rw [HT.out, decide_eq_true hle]; rfl
        exact ⟨by rw [hE]; try rfl, hb⟩
  · have e : entsOk es = false := by unfold entsOk; rw [decide_eq_false hle]; rfl
    rw [e]; clear e
    have h0 : 0 < es.length := by omega
    have hd : decide ((es.length : Int) ≤ 300) = false := decide_eq_false (by omega)
    go_enter Tryz.func7, Tryz.ntmps7
    go_wp2
    go_loopw [3] (fun i wr => i = .int .i64 0 ∧ wr = w) (fun _ _ => 0)
    case atStart => exact ⟨rfl, rfl⟩
    case round =>
      obtain ⟨rfl, rfl⟩ := hrel
      go_wp2
      go_ret
      exact ⟨rfl, Below.refl _ _⟩
end Go.Proofs.YtmaknbbijgihgaaGreatDoor
namespace Go.Proofs.YtmaknbbijgihgaaGreatDoor
open Go.RowKit
def movEq (k n c : Int) (l : List PD) (k' n' c' : Int) (l' : List PD) : Bool := decide ((k, n, c, l) = (k', n', c', l'))
set_option maxHeartbeats 4000000 in
theorem sameMove_any {kind n cost kind' n' cost' : Int} {puts puts' : List PD} {v1 u1 : Value} {w : World} (hp1 : PutsAt w v1 puts) (hq1 : PutsAt w u1 puts') :
    Calls Tryz.prog 28 #[.agg #[.int .i64 kind, .int .i64 n, .int .i64 cost, v1], .agg #[.int .i64 kind', .int .i64 n', .int .i64 cost', u1]] w (BoolPost (movEq kind n cost puts kind' n' cost' puts') w) := by
  rcases k1 : (kind == kind') with _ | _
  · have h : movEq kind n cost puts kind' n' cost' puts' = false := by unfold movEq; rw [decide_eq_false]; intro hh; cases hh; simp at k1
    rw [h]; clear h
    go_enter Tryz.func28, Tryz.ntmps28
    go_wp2_with (first | (go_at_call 29; refine (same29 (hp1.below (alloc2_below _ _ _) (Nat.le_refl _)) (hq1.below (alloc2_below _ _ _) (Nat.le_refl _))).mono ?_; rintro e' w1 ⟨rfl, hb⟩))
    go_ret
    exact ⟨rfl, alloc2_below _ _ _⟩
  · skip
    rcases k2 : (n == n') with _ | _
    · have h : movEq kind n cost puts kind' n' cost' puts' = false := by unfold movEq; rw [decide_eq_false]; intro hh; cases hh; simp at k2
      rw [h]; clear h
      go_enter Tryz.func28, Tryz.ntmps28
      go_wp2_with (first | (go_at_call 29; refine (same29 (hp1.below (alloc2_below _ _ _) (Nat.le_refl _)) (hq1.below (alloc2_below _ _ _) (Nat.le_refl _))).mono ?_; rintro e' w1 ⟨rfl, hb⟩))
      go_ret
      exact ⟨rfl, alloc2_below _ _ _⟩
    · skip
      rcases k3 : (cost == cost') with _ | _
      · have h : movEq kind n cost puts kind' n' cost' puts' = false := by unfold movEq; rw [decide_eq_false]; intro hh; cases hh; simp at k3
        rw [h]; clear h
        go_enter Tryz.func28, Tryz.ntmps28
        go_wp2_with (first | (go_at_call 29; refine (same29 (hp1.below (alloc2_below _ _ _) (Nat.le_refl _)) (hq1.below (alloc2_below _ _ _) (Nat.le_refl _))).mono ?_; rintro e' w1 ⟨rfl, hb⟩))
        go_ret
        exact ⟨rfl, alloc2_below _ _ _⟩
      · skip
        rcases k4 : decide (puts = puts') with _ | _
        · have h : movEq kind n cost puts kind' n' cost' puts' = false := by unfold movEq; rw [decide_eq_false]; intro hh; cases hh; simp at k4
          rw [h]; clear h
          go_enter Tryz.func28, Tryz.ntmps28
          go_wp2_with (first | (go_at_call 29; refine (same29 (hp1.below (alloc2_below _ _ _) (Nat.le_refl _)) (hq1.below (alloc2_below _ _ _) (Nat.le_refl _))).mono ?_; rintro e' w1 ⟨rfl, hb⟩))
          go_ret
          exact ⟨rfl, (alloc2_below _ _ _).trans (hb.mono (by simp; omega))⟩
        · skip
          have h : movEq kind n cost puts kind' n' cost' puts' = true := by
            unfold movEq
            rw [decide_eq_true]
            simp_all
          rw [h]; clear h
          go_enter Tryz.func28, Tryz.ntmps28
          go_wp2_with (first | (go_at_call 29; refine (same29 (hp1.below (alloc2_below _ _ _) (Nat.le_refl _)) (hq1.below (alloc2_below _ _ _) (Nat.le_refl _))).mono ?_; rintro e' w1 ⟨rfl, hb⟩))
          go_ret
          exact ⟨rfl, (alloc2_below _ _ _).trans (hb.mono (by simp; omega))⟩
end Go.Proofs.YtmaknbbijgihgaaGreatDoor
namespace Go.Proofs.YtmaknbbijgihgaaGreatDoor
open Go.RowKit
set_option maxHeartbeats 10000000 in
set_option maxRecDepth 100000 in
theorem sameEntry_any {e f : ED} {v1 v2 u1 u2 : Value} {w : World} (hp1 : PutsAt w v1 e.puts) (hp2 : PutsAt w v2 e.puts2) (hq1 : PutsAt w u1 f.puts) (hq2 : PutsAt w u2 f.puts2) :
    Calls Tryz.prog 13 #[e.val v1 v2, f.val u1 u2] w (BoolPost (decide (e = f)) w) := by
  obtain ⟨kind, n, cost, puts, j0, j1, j2, j3, err, mode, fault, puts2⟩ := e
  obtain ⟨kind', n', cost', puts', j0', j1', j2', j3', err', mode', fault', puts2'⟩ := f
  unfold ED.val
  simp only at hp1 hp2 hq1 hq2 ⊢
  have hcon := fun (W : World) (hb : Below w.heap.size w W) => sameMove_any (kind := kind) (n := n) (cost := cost) (kind' := kind') (n' := n') (cost' := cost') (w := W) (hp1.below hb (Nat.le_refl _)) (hq1.below hb (Nat.le_refl _))
  have HC := Lib.hid hcon; clear hcon
  rcases k4 : movEq kind n cost puts kind' n' cost' puts' with _ | _
  · have h : decide ((⟨kind, n, cost, puts, j0, j1, j2, j3, err, mode, fault, puts2⟩ : ED) = ⟨kind', n', cost', puts', j0', j1', j2', j3', err', mode', fault', puts2'⟩) = false := by rw [decide_eq_false]; intro hh; cases hh; simp [movEq] at k4
    rw [h]; clear h
    go_enter Tryz.func13, Tryz.ntmps13
    go_wp2_with (first | (go_at_call 28; refine (HC.out _ (alloc2_below _ _ _)).mono ?_; rintro e' w1 ⟨rfl, hb⟩; obtain ⟨hbc, hbf⟩ := bcell hb) | (go_at_call 29; refine (same29 (hp2.below ((alloc2_below _ _ _).trans (hb.mono (by simp; omega))) (Nat.le_refl _)) (hq2.below ((alloc2_below _ _ _).trans (hb.mono (by simp; omega))) (Nat.le_refl _))).mono ?_; rintro e' w2 ⟨rfl, hb3⟩))
    go_ret
    exact ⟨rfl, (alloc2_below _ _ _).trans (hb.mono (by simp; omega))⟩
  · skip
    rcases k5 : decide (j0 = j0' ∧ j1 = j1' ∧ j2 = j2' ∧ j3 = j3') with _ | _
    · have h : decide ((⟨kind, n, cost, puts, j0, j1, j2, j3, err, mode, fault, puts2⟩ : ED) = ⟨kind', n', cost', puts', j0', j1', j2', j3', err', mode', fault', puts2'⟩) = false := by rw [decide_eq_false]; intro hh; cases hh; simp [movEq] at k5
      rw [h]; clear h
      have hj : ∀ W : World, (binOp .eql 39 (.agg #[.int .i64 j0, .int .i64 j1, .int .i64 j2, .int .i64 j3]) (.agg #[.int .i64 j0', .int .i64 j1', .int .i64 j2', .int .i64 j3'])).run Tryz.prog W = .ok (.bool false) W := fun W => by rw [eql39, k5]
      clear k5
      go_enter Tryz.func13, Tryz.ntmps13
      go_wp2_with (first | (go_at_call 28; refine (HC.out _ (alloc2_below _ _ _)).mono ?_; rintro e' w1 ⟨rfl, hb⟩; obtain ⟨hbc, hbf⟩ := bcell hb) | (go_at_call 29; refine (same29 (hp2.below ((alloc2_below _ _ _).trans (hb.mono (by simp; omega))) (Nat.le_refl _)) (hq2.below ((alloc2_below _ _ _).trans (hb.mono (by simp; omega))) (Nat.le_refl _))).mono ?_; rintro e' w2 ⟨rfl, hb3⟩))
      go_ret
      exact ⟨rfl, (alloc2_below _ _ _).trans (hb.mono (by simp; omega))⟩
    · skip
      have hj : ∀ W : World, (binOp .eql 39 (.agg #[.int .i64 j0, .int .i64 j1, .int .i64 j2, .int .i64 j3]) (.agg #[.int .i64 j0', .int .i64 j1', .int .i64 j2', .int .i64 j3'])).run Tryz.prog W = .ok (.bool true) W := fun W => by rw [eql39, k5]
      have Hk5 := Lib.hid k5; clear k5
      rcases k6 : (err == err') with _ | _
      · have h : decide ((⟨kind, n, cost, puts, j0, j1, j2, j3, err, mode, fault, puts2⟩ : ED) = ⟨kind', n', cost', puts', j0', j1', j2', j3', err', mode', fault', puts2'⟩) = false := by rw [decide_eq_false]; intro hh; cases hh; simp [movEq] at k6
        rw [h]; clear h
        go_enter Tryz.func13, Tryz.ntmps13
        go_wp2_with (first | (go_at_call 28; refine (HC.out _ (alloc2_below _ _ _)).mono ?_; rintro e' w1 ⟨rfl, hb⟩; obtain ⟨hbc, hbf⟩ := bcell hb) | (go_at_call 29; refine (same29 (hp2.below ((alloc2_below _ _ _).trans (hb.mono (by simp; omega))) (Nat.le_refl _)) (hq2.below ((alloc2_below _ _ _).trans (hb.mono (by simp; omega))) (Nat.le_refl _))).mono ?_; rintro e' w2 ⟨rfl, hb3⟩))
        go_ret
        exact ⟨rfl, (alloc2_below _ _ _).trans (hb.mono (by simp; omega))⟩
      · skip
        rcases k7 : (mode == mode') with _ | _
        · have h : decide ((⟨kind, n, cost, puts, j0, j1, j2, j3, err, mode, fault, puts2⟩ : ED) = ⟨kind', n', cost', puts', j0', j1', j2', j3', err', mode', fault', puts2'⟩) = false := by rw [decide_eq_false]; intro hh; cases hh; simp [movEq] at k7
          rw [h]; clear h
          go_enter Tryz.func13, Tryz.ntmps13
          go_wp2_with (first | (go_at_call 28; refine (HC.out _ (alloc2_below _ _ _)).mono ?_; rintro e' w1 ⟨rfl, hb⟩; obtain ⟨hbc, hbf⟩ := bcell hb) | (go_at_call 29; refine (same29 (hp2.below ((alloc2_below _ _ _).trans (hb.mono (by simp; omega))) (Nat.le_refl _)) (hq2.below ((alloc2_below _ _ _).trans (hb.mono (by simp; omega))) (Nat.le_refl _))).mono ?_; rintro e' w2 ⟨rfl, hb3⟩))
          go_ret
          exact ⟨rfl, (alloc2_below _ _ _).trans (hb.mono (by simp; omega))⟩
        · skip
          rcases k8 : (fault == fault') with _ | _
          · have h : decide ((⟨kind, n, cost, puts, j0, j1, j2, j3, err, mode, fault, puts2⟩ : ED) = ⟨kind', n', cost', puts', j0', j1', j2', j3', err', mode', fault', puts2'⟩) = false := by rw [decide_eq_false]; intro hh; cases hh; simp [movEq] at k8
            rw [h]; clear h
            go_enter Tryz.func13, Tryz.ntmps13
            go_wp2_with (first | (go_at_call 28; refine (HC.out _ (alloc2_below _ _ _)).mono ?_; rintro e' w1 ⟨rfl, hb⟩; obtain ⟨hbc, hbf⟩ := bcell hb) | (go_at_call 29; refine (same29 (hp2.below ((alloc2_below _ _ _).trans (hb.mono (by simp; omega))) (Nat.le_refl _)) (hq2.below ((alloc2_below _ _ _).trans (hb.mono (by simp; omega))) (Nat.le_refl _))).mono ?_; rintro e' w2 ⟨rfl, hb3⟩))
            go_ret
            exact ⟨rfl, (alloc2_below _ _ _).trans (hb.mono (by simp; omega))⟩
          · skip
            rcases k9 : decide (puts2 = puts2') with _ | _
            · have h : decide ((⟨kind, n, cost, puts, j0, j1, j2, j3, err, mode, fault, puts2⟩ : ED) = ⟨kind', n', cost', puts', j0', j1', j2', j3', err', mode', fault', puts2'⟩) = false := by rw [decide_eq_false]; intro hh; cases hh; simp [movEq] at k9
              rw [h]; clear h
              go_enter Tryz.func13, Tryz.ntmps13
              go_wp2_with (first | (go_at_call 28; refine (HC.out _ (alloc2_below _ _ _)).mono ?_; rintro e' w1 ⟨rfl, hb⟩; obtain ⟨hbc, hbf⟩ := bcell hb) | (go_at_call 29; refine (same29 (hp2.below ((alloc2_below _ _ _).trans (hb.mono (by simp; omega))) (Nat.le_refl _)) (hq2.below ((alloc2_below _ _ _).trans (hb.mono (by simp; omega))) (Nat.le_refl _))).mono ?_; rintro e' w2 ⟨rfl, hb3⟩))
              go_ret
              exact ⟨rfl, ((alloc2_below _ _ _).trans (hb.mono (by simp; omega))).trans (hb3.mono (by have := hb.size; simp at this; omega))⟩
            · skip
              have h : decide ((⟨kind, n, cost, puts, j0, j1, j2, j3, err, mode, fault, puts2⟩ : ED) = ⟨kind', n', cost', puts', j0', j1', j2', j3', err', mode', fault', puts2'⟩) = true := by
                rw [decide_eq_true]
                have := Hk5.out
                simp_all [movEq]
              rw [h]; clear h
              go_enter Tryz.func13, Tryz.ntmps13
              go_wp2_with (first | (go_at_call 28; refine (HC.out _ (alloc2_below _ _ _)).mono ?_; rintro e' w1 ⟨rfl, hb⟩; obtain ⟨hbc, hbf⟩ := bcell hb) | (go_at_call 29; refine (same29 (hp2.below ((alloc2_below _ _ _).trans (hb.mono (by simp; omega))) (Nat.le_refl _)) (hq2.below ((alloc2_below _ _ _).trans (hb.mono (by simp; omega))) (Nat.le_refl _))).mono ?_; rintro e' w2 ⟨rfl, hb3⟩))
              go_ret
              exact ⟨rfl, ((alloc2_below _ _ _).trans (hb.mono (by simp; omega))).trans (hb3.mono (by have := hb.size; simp at this; omega))⟩
end Go.Proofs.YtmaknbbijgihgaaGreatDoor
