/- Proved here: the shadow run is sound: what the executor gives, the program's call gives in every world that the abstract heap stands for; tables of known calls. Conditions: those of the row Rows.traceImagesRow (its listed variables as laid); none else. -/
import Derived.Test.YtmaknbbijgihgaaGreatDoorS3
set_option linter.all false
namespace Go.Shadow
section
variable {p : Program} {φ : Phi} {s : St} {R : Rec}

theorem run_newObj {w : World} {o : Obj} : (newObj o).run p w = .ok w.heap.size { w with heap := w.heap.push o } := by
  simp [newObj, Sem.run]

def newLoop (s : St) (ps : Array Tmp) (assign body : Code) (d : Nat) : ABlk := .loop ⟨.ready, none, s.td, s.tm, s.n, ps.toList, assign, body, d⟩

theorem around_sound {rd : Option Nat} {F : Fence} {a : Act} {w : World} {A : Around} {ps : Array Tmp} {assign body : Code} (hr : RdF φ rd F) (h : SR p φ s a w) (hx : around rd s = some A) (fn : FuncId) :
    ∃ l mark w1 φ1, (Instr.enterLoop fn a.tmps ps assign body F.round).run p w = .ok (l, mark) w1 ∧ φ1 A.hp.n = some (l, 0) ∧
      SR p φ1 ⟨s.td, s.tm, s.n, A.hp.new (newLoop s ps assign body A.defers), A.df⟩ { a with defers := mark ++ a.defers } w1 ∧ Step φ s.hp w φ1 (A.hp.new (newLoop s ps assign body A.defers)) w1 := by
  cases rd with
  | some l0 =>
    obtain ⟨r, x, hφ, rfl⟩ := hr
    obtain ⟨k, h1, h2⟩ := oB_some (show oB (s.hp.get l0) (aroundB s) = some A from hx)
    cases k with
    | cells c e wr => cases h2
    | map es cl wr => cases h2
    | defs b => cases h2
    | loop k =>
    cases h2
    obtain ⟨o, d', y, o1, o2, o3, o4, o5, o6, o7, o8⟩ := loop_live h.hp hφ h1
    obtain ⟨g1, g2⟩ := h.hp.new (k := newLoop s ps assign body k.defers) (o := .loop { state := .ready, pending := none, fn := fn, tmps := a.tmps, params := ps, assign := assign, body := body, defers := o.defers }) (x := 0)
      (fun ψ hψ => .loop (h.tm.mono hψ) rfl (hψ _ _ o7))
    refine ⟨_, [], _, _, ?_, Phi.add_same, ⟨h.tm.mono g2.le, g1, h.df.mono g2.le⟩, g2⟩
    have e1 : (Fence.wide.inRound r).round = some r := rfl
    unfold Instr.enterLoop
    rw [e1]
    simp only [Sem.run_bind, run_getLoop o1, Result.andThen_ok, Sem.run_pure, run_newObj]
  | none =>
    cases hr
    cases hx
    obtain ⟨g1, g2⟩ := h.hp.new (k := .defs true) (o := .deferred (some [])) (x := 0) (fun ψ hψ => .defsT)
    obtain ⟨g3, g4⟩ := g1.new (k := newLoop s ps assign body s.hp.n) (o := .loop { state := .ready, pending := none, fn := fn, tmps := a.tmps, params := ps, assign := assign, body := body, defers := w.heap.size }) (x := 0)
      (fun ψ hψ => .loop ((h.tm.mono g2.le).mono hψ) rfl (hψ _ _ Phi.add_same))
    refine ⟨_, [{ target := .collected w.heap.size, args := #[] }], _, _, ?_, Phi.add_same, ⟨(h.tm.mono g2.le).mono g4.le, g3, .cons (.mark (g4.le _ _ Phi.add_same)) ((h.df.mono g2.le).mono g4.le)⟩, g2.trans g4⟩
    have e1 : Fence.wide.round = none := rfl
    unfold Instr.enterLoop
    rw [e1]
    simp only [Sem.run_bind, Result.andThen_ok, Sem.run_pure, run_newObj]

theorem hasBody_some {k : FuncId} (h : hasBody p k = true) : ∃ fn c, p.funcs[k]? = some fn ∧ fn.body = some c := by
  unfold hasBody at h
  split at h
  · rename_i fn hf
    cases hb : fn.body with
    | none => rw [hb] at h; cases h
    | some c => exact ⟨fn, c, hf, hb⟩
  · cases h

theorem CallOk.enters (hN : NoNG p) {f : FuncId} {args : Array Value} {w : World} {K : Value → World → Prop} (hb : hasBody p f = true) (h : CallOk p f args w K) :
    (callFunc f args).run p w = .ok (.enter f args) w ∧ ∀ n, CallsIn Fence.wide n p f args w (fun e w' => ∃ v, e = .returned v ∧ K v w') := by
  obtain ⟨fn, c, h1, h2⟩ := hasBody_some hb
  rcases h with ⟨v, w', h3, _⟩ | h3
  · rw [run_callFunc_body hN h1 h2] at h3; cases h3
  · exact h3

theorem rangeFunc_sound (hN : NoNG p) (G : Good p R) {rd : Option Nat} {F : Fence} {n : Nat} {g : Operand} {ps : Array Tmp} {assign body : Code} {s' : St} {e : Ex} {a : Act} {w : World} (hr : RdF φ rd F) (h : SR p φ s a w)
    (hx : oB (ev p s g) (rangeV p R rd s ps assign body) = some (e, s')) : (Code.rangeFunc g ps assign body).wpIn F n p (Post φ p s.hp w e s') a w := by
  obtain ⟨gv, h1, h2⟩ := oB_some hx
  have hgv := h.evR [g] g (by simp) _ h1
  cases gv with
  | fn gf first cap =>
    obtain ⟨g', first', cap', e1, e2, e3, e4⟩ := hgv.fn_inv
    have h2' : rangeFn p R rd s ps assign body first cap gf = some (e, s') := h2
    cases gf with
    | func k =>
      cases e2
      obtain ⟨hb, h3⟩ := guardB_some (show guardB (hasBody p k) (oB (around rd s) (rangeIn R rd s ps assign body k first cap)) = some (e, s') from h2')
      obtain ⟨A, h4, h5⟩ := oB_some h3
      obtain ⟨⟨v, H1⟩, h6, h7⟩ := oB_some (show oB (R.call k (first ++ [.fn (.yield A.hp.n) [] []] ++ cap) (A.hp.new (newLoop s ps assign body A.defers))) (rangeBack R rd s A.df A.hp.n) = some (e, s') from h5)
      obtain ⟨kb, h8, h9⟩ := oB_some (show oB (H1.get A.hp.n) (endLoop R rd s A.df A.hp.n H1) = some (e, s') from h7)
      refine wpIn_rangeFunc (fun fn _ => ?_)
      obtain ⟨l, mark, w1, φ1, g1, g2, g3, g4⟩ := around_sound (ps := ps) (assign := assign) (body := body) hr h h4 fn
      have ha : VRs φ1 (first ++ [.fn (.yield A.hp.n) [] []] ++ cap) ((first' ++ #[Value.func (.yield l) #[] #[]]) ++ cap').toList := by
        have q := ((e3.mono g4.le).append (.cons (.fn (.yield g2) .nil .nil) .nil)).append (e4.mono g4.le)
        simpa using q
      obtain ⟨c1, c2⟩ := (G.call g3.hp ha h6).enters hN hb
      refine ⟨l, mark, w1, { target := .fn (.func k) cap', args := first' ++ #[Value.func (.yield l) #[] #[]] }, w1, k, _, w1, g1, ?_, fun f' _ => hr.fn f', c1, hr.depth, hr.calls ((c2 (n - 1)).mono ?_)⟩
      · have hc : a.eval (.const (.func (.yield l) #[] #[])) = .func (.yield l) #[] #[] := rfl
        simp only [resolve, e1, Deferred.ofValue, Sem.run_bind, Sem.run_pure, Result.andThen_ok]
        simp [hc]
      · rintro en w2 ⟨v', rfl, φ2, b1, b2, b3⟩
        cases kb with
        | cells c e wr => cases h9
        | map es cl wr => cases h9
        | defs b => cases h9
        | loop q =>
        have hφ2 := b3.le _ _ g2
        obtain ⟨o, d', y, o1, o2, o3, o4, o5, o6, o7, o8⟩ := loop_live b2 hφ2 h8
        have h9' : (match q.state with
          | .busy => none
          | _ => pendK R rd ⟨s.td, s.tm, s.n, H1.set A.hp.n (.loop { q with state := .exhausted }), A.df⟩ q.pending) = some (e, s') := by cases s; exact h9
        have h10 : q.state ≠ .busy ∧ pendK R rd ⟨s.td, s.tm, s.n, H1.set A.hp.n (.loop { q with state := .exhausted }), A.df⟩ q.pending = some (e, s') := by
          cases hs : q.state <;> rw [hs] at h9' <;> first | (cases h9'; done) | exact ⟨by simp, h9'⟩
        obtain ⟨hs, h11⟩ := h10
        have hbr : BR p φ2 0 (.loop { q with state := .exhausted }) (.loop { o with state := .exhausted }) := by
          obtain ⟨st, pe, td, tm, n, pa, as, bo, d⟩ := q
          obtain ⟨st', pe', fn', tmps', ps', as', bo', de'⟩ := o
          simp only at o2 o3 o4 o5 o6 o7 o8
          subst o3 o4 o5
          exact .loop o8 o6 o7
        obtain ⟨t1, t2⟩ := b2.set h8 rfl hφ2 hbr
        have hsr : SR p φ2 ⟨s.td, s.tm, s.n, H1.set A.hp.n (.loop { q with state := .exhausted }), A.df⟩ { a with defers := mark ++ a.defers } { w2 with heap := w2.heap.setIfInBounds l (.loop { o with state := .exhausted }) } :=
          ⟨g3.tm.mono b3.le, t1, g3.df.mono b3.le⟩
        have hst := (g4.trans b3).trans t2
        refine ⟨q.pending, { w2 with heap := w2.heap.setIfInBounds l (.loop { o with state := .exhausted }) }, ?_, ?_⟩
        · unfold Instr.endLoop
          have e5 : (o.state == LoopState.busy) = false := by rw [o2]; cases hq : q.state <;> first | rfl | exact absurd hq hs
          simp only [Sem.run_bind, run_getLoop o1, Result.andThen_ok, e5, Bool.false_eq_true, if_false, run_setLoop o1, Sem.run_pure, o3]
        · cases hp : q.pending with
          | none =>
            rw [hp] at h11 hsr hst
            cases h11
            exact ⟨rfl, φ2, hsr, hst⟩
          | some c =>
            rw [hp] at h11 hsr hst
            exact wpIn_mono (G.code n (hr.mono (Phi.le_trans g4.le b3.le)) hsr h11) (Post.trans hst)
    | _ => cases h2'
  | _ => cases h2

end
end Go.Shadow
namespace Go.Shadow
section
variable {p : Program}

/-! ### Heaps as functions -/
structure HV (p : Program) (φ : Phi) (g : Nat → Option ABlk) (n : Nat) (w : World) : Prop where
  live : ∀ b k, g b = some k → ∃ r x o, φ b = some (r, x) ∧ w.heap[r]? = some o ∧ BR p φ x k o
  inj : ∀ b b' k k' r x x', g b = some k → g b' = some k' → φ b = some (r, x) → φ b' = some (r, x') → b = b'
  dom : ∀ b r x, φ b = some (r, x) → b < n ∧ r < w.heap.size
  glob : ∀ q, q < p.globals.size → ∃ x, φ q = some (q, x)

structure SV (φ : Phi) (g : Nat → Option ABlk) (n : Nat) (w : World) (φ' : Phi) (g' : Nat → Option ABlk) (n' : Nat) (w' : World) : Prop where
  le : Phi.le φ φ'
  nn : n ≤ n'
  size : w.heap.size ≤ w'.heap.size
  frame : ∀ r, r < w.heap.size → (∀ b k x, g b = some k → k.wr = true → φ b ≠ some (r, x)) → w'.heap[r]? = w.heap[r]?
  own : ∀ b k r x, g' b = some k → φ' b = some (r, x) → w.heap.size ≤ r ∨ ∃ b0 k0 x0, g b0 = some k0 ∧ φ b0 = some (r, x0) ∧ (k.wr = true → k0.wr = true)
  os : w'.os = w.os
  output : w'.output = w.output
  tape : w'.tape = w.tape
  fresh : ∀ b x, φ' b = some x → φ b = some x ∨ n ≤ b

theorem HR.hv {φ : Phi} {H : Heap} {w : World} (h : HR p φ H w) : HV p φ H.get H.n w := ⟨h.live, h.inj, h.dom, h.glob⟩
theorem HV.hr {φ : Phi} {H : Heap} {g : Nat → Option ABlk} {n : Nat} {w : World} (h : HV p φ g n w) (hs : ∀ b k, H.get b = some k → g b = some k) (hn : H.n = n) : HR p φ H w :=
  ⟨fun b k hb => h.live b k (hs b k hb), fun b b' k k' r x x' h1 h2 => h.inj b b' k k' r x x' (hs _ _ h1) (hs _ _ h2), fun b r x e => by rw [hn]; exact h.dom b r x e, h.glob⟩
theorem Step.sv {φ φ' : Phi} {H H' : Heap} {w w' : World} (h : Step φ H w φ' H' w') : SV φ H.get H.n w φ' H'.get H'.n w' := ⟨h.le, h.n, h.size, h.frame, h.own, h.os, h.output, h.tape, h.fresh⟩
theorem SV.step {φ φ' : Phi} {H H' : Heap} {g' : Nat → Option ABlk} {n' : Nat} {w w' : World} (h : SV φ H.get H.n w φ' g' n' w') (hs : ∀ b k, H'.get b = some k → g' b = some k) (hn : H'.n = n') : Step φ H w φ' H' w' :=
  ⟨h.le, by rw [hn]; exact h.nn, h.size, h.frame, fun b k r x hb => h.own b k r x (hs _ _ hb), h.os, h.output, h.tape, h.fresh⟩
theorem SV.refl (φ : Phi) (g : Nat → Option ABlk) (n : Nat) (w : World) : SV φ g n w φ g n w :=
  ⟨Phi.le_refl _, Nat.le_refl _, Nat.le_refl _, fun _ _ _ => rfl, fun b k r x hb hr => .inr ⟨b, k, x, hb, hr, id⟩, rfl, rfl, rfl, fun _ _ h => .inl h⟩
theorem SV.trans {φ φ' φ'' : Phi} {g g' g'' : Nat → Option ABlk} {n n' n'' : Nat} {w w' w'' : World} (h : SV φ g n w φ' g' n' w') (h' : SV φ' g' n' w' φ'' g'' n'' w'') : SV φ g n w φ'' g'' n'' w'' := by
  refine ⟨Phi.le_trans h.le h'.le, Nat.le_trans h.nn h'.nn, Nat.le_trans h.size h'.size, fun r hr hun => ?_, fun b k r x hb hr => ?_, h'.os.trans h.os, h'.output.trans h.output, h'.tape.trans h.tape, fun b x hb => ?_⟩
  · rw [h'.frame r (Nat.lt_of_lt_of_le hr h.size) ?_, h.frame r hr hun]
    intro b k x hb hk hφ
    rcases h.own b k r x hb hφ with hge | ⟨b0, k0, x0, h0, h1, h2⟩
    · omega
    · exact hun b0 k0 x0 h0 (h2 hk) h1
  · rcases h'.own b k r x hb hr with hge | ⟨b1, k1, x1, h1, h2, h3⟩
    · exact .inl (Nat.le_trans h.size hge)
    · rcases h.own b1 k1 r x1 h1 h2 with hge | ⟨b0, k0, x0, h4, h5, h6⟩
      · exact .inl hge
      · exact .inr ⟨b0, k0, x0, h4, h5, fun e => h6 (h3 e)⟩
  · rcases h'.fresh b x hb with h1 | h1
    · exact h.fresh b x h1
    · exact .inr (Nat.le_trans h.nn h1)

/-- What runs on a part of the heap keeps the rest. -/
theorem frame_sound {φ φ' : Phi} {H1 H1' : Heap} {g g' : Nat → Option ABlk} {n : Nat} {w w' : World} (hD : HV p φ g n w) (hs : ∀ b k, H1.get b = some k → g b = some k) (hn1 : H1.n = n) (h' : HR p φ' H1' w') (st : Step φ H1 w φ' H1' w')
    (hget : ∀ b k, g' b = some k → H1'.get b = some k ∨ (H1.get b = none ∧ g b = some k)) : HV p φ' g' H1'.n w' ∧ SV φ g n w φ' g' H1'.n w' := by
  have cross : ∀ b b' k k' r x x', H1'.get b = some k → H1.get b' = none → g b' = some k' → φ' b = some (r, x) → φ b' = some (r, x') → False := by
    intro b b' k k' r x x' h1 h2 h3 e1 e2
    rcases st.own b k r x h1 e1 with hge | ⟨b0, k0, x0, h4, h5, _⟩
    · have := (hD.dom _ _ _ e2).2; omega
    · have := hD.inj b0 b' k0 k' r x0 x' (hs _ _ h4) h3 h5 e2
      subst this
      rw [h4] at h2; cases h2
  refine ⟨⟨fun b k hb => ?_, fun b b' k k' r x x' h1 h2 e1 e2 => ?_, h'.dom, h'.glob⟩, ⟨st.le, by rw [← hn1]; exact st.n, st.size, fun r hr hun => st.frame r hr (fun b k x hb => hun b k x (hs _ _ hb)), fun b k r x hb hr => ?_, st.os, st.output, st.tape, by rw [← hn1]; exact st.fresh⟩⟩
  · rcases hget b k hb with h1 | ⟨h1, h2⟩
    · exact h'.live b k h1
    · obtain ⟨r, x, o, e1, e2, e3⟩ := hD.live b k h2
      refine ⟨r, x, o, st.le _ _ e1, ?_, e3.mono st.le⟩
      rw [st.frame r (hD.dom _ _ _ e1).2 ?_]
      · exact e2
      · intro b' k' x' hb' _ hφ
        have := hD.inj b' b k' k r x' x (hs _ _ hb') h2 hφ e1
        subst this
        rw [hb'] at h1; cases h1
  · rcases hget b k h1 with g1 | ⟨g1, g2⟩
    · rcases hget b' k' h2 with g3 | ⟨g3, g4⟩
      · exact h'.inj b b' k k' r x x' g1 g3 e1 e2
      · obtain ⟨r2, x2, o2, f1, _, _⟩ := hD.live b' k' g4
        have f2 := st.le _ _ f1
        rw [e2] at f2; cases f2
        exact (cross b b' k k' r x x' g1 g3 g4 e1 f1).elim
    · obtain ⟨r2, x2, o2, f1, _, _⟩ := hD.live b k g2
      have f2 := st.le _ _ f1
      rw [e1] at f2; cases f2
      rcases hget b' k' h2 with g3 | ⟨g3, g4⟩
      · exact (cross b' b k' k r x' x g3 g1 g2 e2 f1).elim
      · obtain ⟨r3, x3, o3, f3, _, _⟩ := hD.live b' k' g4
        have f4 := st.le _ _ f3
        rw [e2] at f4; cases f4
        exact hD.inj b b' k k' r x x' g2 g4 f1 f3
  · rcases hget b k hb with h1 | ⟨h1, h2⟩
    · rcases st.own b k r x h1 hr with hge | ⟨b0, k0, x0, h4, h5, h6⟩
      · exact .inl hge
      · exact .inr ⟨b0, k0, x0, hs _ _ h4, h5, h6⟩
    · obtain ⟨r2, x2, o2, f1, _, _⟩ := hD.live b k h2
      have f2 := st.le _ _ f1
      rw [hr] at f2; cases f2
      exact .inr ⟨b, k, x, h2, f1, id⟩

/-- A new block under a number that was laid by. -/
theorem newAt {φ0 φ : Phi} {g0 g : Nat → Option ABlk} {n0 n : Nat} {w0 w : World} {b0 : Nat} {k : ABlk} {o : Obj} (h : HV p φ g n w) (st : SV φ0 g0 n0 w0 φ g n w) (hb0 : n0 ≤ b0) (hbn : b0 < n) (hφ : φ b0 = none) (hb : ∀ ψ, Phi.le φ ψ → BR p ψ 0 k o) :
    HV p (φ.add b0 (w.heap.size, 0)) (fun b => if b = b0 then some k else g b) n { w with heap := w.heap.push o } ∧ SV φ0 g0 n0 w0 (φ.add b0 (w.heap.size, 0)) (fun b => if b = b0 then some k else g b) n { w with heap := w.heap.push o } := by
  have hle : Phi.le φ (φ.add b0 (w.heap.size, 0)) := Phi.le_add hφ
  refine ⟨⟨fun b k' hk => ?_, fun b b' k1 k2 r x1 x2 h1 h2 e1 e2 => ?_, fun b r y e => ?_, fun q hq => ?_⟩, ⟨Phi.le_trans st.le hle, st.nn, by have := st.size; simp; omega, fun r hr hun => ?_, fun b k' r x hk e => ?_, st.os, st.output, st.tape, fun b y e => ?_⟩⟩
  · by_cases e : b = b0
    · subst e
      simp at hk; subst hk
      exact ⟨_, _, o, Phi.add_same, by simp, hb _ hle⟩
    · simp [e] at hk
      obtain ⟨r, y, o', e1, e2, e3⟩ := h.live b k' hk
      exact ⟨r, y, o', hle _ _ e1, by rw [World.get_push (h.dom _ _ _ e1).2]; exact e2, e3.mono hle⟩
  · by_cases g1 : b = b0
    · by_cases g2 : b' = b0
      · rw [g1, g2]
      · rw [g1, Phi.add_same] at e1
        rw [Phi.add_ne g2] at e2
        have := (h.dom _ _ _ e2).2
        cases e1; omega
    · by_cases g2 : b' = b0
      · rw [g2, Phi.add_same] at e2
        rw [Phi.add_ne g1] at e1
        have := (h.dom _ _ _ e1).2
        cases e2; omega
      · rw [Phi.add_ne g1] at e1
        rw [Phi.add_ne g2] at e2
        simp [g1] at h1; simp [g2] at h2
        exact h.inj b b' _ _ r x1 x2 h1 h2 e1 e2
  · by_cases g : b = b0
    · rw [g, Phi.add_same] at e
      cases e
      exact ⟨by omega, by simp⟩
    · rw [Phi.add_ne g] at e
      have := h.dom _ _ _ e
      exact ⟨this.1, by simp; omega⟩
  · obtain ⟨y, hy⟩ := h.glob q hq
    exact ⟨y, hle _ _ hy⟩
  · rw [World.get_push (Nat.lt_of_lt_of_le hr st.size)]
    exact st.frame r hr hun
  · by_cases g : b = b0
    · rw [g, Phi.add_same] at e
      cases e
      exact .inl st.size
    · rw [Phi.add_ne g] at e
      simp [g] at hk
      exact st.own b k' r x hk e
  · by_cases g : b = b0
    · exact .inr (by subst g; exact hb0)
    · rw [Phi.add_ne g] at e; exact st.fresh b y e

/-! ### Heaps with blocks taken out and laid in again -/
theorem eraseAll_n : ∀ (l : List Nat) (H : Heap), (eraseAll l H).n = H.n
  | [], _ => rfl
  | b :: l, H => by unfold eraseAll; rw [eraseAll_n l, Heap.n_kill]
theorem eraseAll_get : ∀ (l : List Nat) (H : Heap) {b : Nat} {k : ABlk}, (eraseAll l H).get b = some k → b ∉ l ∧ H.get b = some k
  | [], H, b, k, h => ⟨by simp, h⟩
  | c :: l, H, b, k, h => by
    unfold eraseAll at h
    obtain ⟨h1, h2⟩ := eraseAll_get l _ h
    obtain ⟨h3, h4⟩ := Heap.get_kill_some h2
    exact ⟨by simp [h1, h3], h4⟩
theorem reviveAll_n : ∀ (l : List Nat) (old new : Heap), (reviveAll old l new).n = new.n
  | [], _, _ => rfl
  | b :: l, old, new => by
    unfold reviveAll
    rw [reviveAll_n l]
    unfold reviveOne
    cases old.get b with
    | none => rfl
    | some k => exact Heap.n_set
theorem reviveAll_get : ∀ (l : List Nat) (old new : Heap) {b : Nat} {k : ABlk}, (reviveAll old l new).get b = some k → (b ∈ l ∧ old.get b = some k) ∨ new.get b = some k
  | [], old, new, b, k, h => .inr h
  | c :: l, old, new, b, k, h => by
    unfold reviveAll at h
    rcases reviveAll_get l old _ h with ⟨h1, h2⟩ | h1
    · exact .inl ⟨by simp [h1], h2⟩
    · unfold reviveOne at h1
      cases hc : old.get c with
      | none => rw [hc] at h1; exact .inr h1
      | some kc =>
        rw [hc] at h1
        by_cases e : b = c
        · subst e
          rw [Heap.get_set] at h1
          cases h1
          exact .inl ⟨by simp, hc⟩
        · exact .inr (Heap.get_set_ne e h1)
theorem Heap.get_from {H : Heap} {n b : Nat} : (H.from n).get b = H.get b := by cases H; rfl
theorem Heap.n_from {H : Heap} {n : Nat} : (H.from n).n = n := by cases H; rfl

theorem mem_notBefore {n0 bef b : Nat} : ∀ {l : List Nat}, b ∈ notBefore n0 bef l ↔ ∃ q, q ∈ l ∧ bef.testBit q = false ∧ b = n0 + q
  | [] => by simp [notBefore]
  | q :: l => by
    unfold notBefore
    cases h : bef.testBit q with
    | true =>
      simp only [mem_notBefore (l := l)]
      constructor
      · rintro ⟨x, h1, h2, h3⟩; exact ⟨x, by simp [h1], h2, h3⟩
      · rintro ⟨x, h1, h2, h3⟩
        rcases List.mem_cons.1 h1 with rfl | h1
        · rw [h] at h2; cases h2
        · exact ⟨x, h1, h2, h3⟩
    | false =>
      simp only [List.mem_cons, mem_notBefore (l := l)]
      constructor
      · rintro (rfl | ⟨x, h1, h2, h3⟩)
        · exact ⟨q, .inl rfl, h, rfl⟩
        · exact ⟨x, .inr h1, h2, h3⟩
      · rintro ⟨x, rfl | h1, h2, h3⟩
        · exact .inl h3
        · exact .inr ⟨x, h1, h2, h3⟩

end
end Go.Shadow
namespace Go.Shadow
section
variable {p : Program} {R : Rec} {rd : Option Nat} {all : List Oper} {n0 : Nat} {befs : List Nat}

/-! ### One step of a region that draws -/
structure PutIs (s s' : St) (d : Option Tmp) (v : AV) : Prop where
  td : s'.td = s.td
  n : s'.n = s.n
  df : s'.df = s.df
  tm : match d with | none => s'.tm = s.tm | some t => t < s.n ∧ s'.tm = s.tm.put s.td t (some v)

theorem put_is {s s' : St} {d : Option Tmp} {v : AV} (h : s.put d v = some s') : PutIs s s' d v ∧ s'.hp = s.hp := by
  cases d with
  | none => cases h; exact ⟨⟨rfl, rfl, rfl, rfl⟩, rfl⟩
  | some d =>
    cases s with
    | mk td tm n hp df =>
    have hs' : (@Bool.rec (fun _ => Option St) none (some ⟨td, tm.put td d (some v), n, hp, df⟩) (Nat.ble (Nat.succ d) n)) = some s' := h
    cases hb : Nat.ble (Nat.succ d) n with
    | false => rw [hb] at hs'; cases hs'
    | true =>
      rw [hb] at hs'
      cases hs'
      exact ⟨⟨rfl, rfl, rfl, ble_le hb, rfl⟩, rfl⟩

theorem PutIs.heap {s s' : St} {d : Option Tmp} {v : AV} {H : Heap} (h : PutIs (s.heap H) s' d v) : PutIs s s' d v := by cases s; exact ⟨h.td, h.n, h.df, h.tm⟩
theorem PutIs.to {s s' : St} {d : Option Tmp} {v : AV} {H : Heap} (h : PutIs s s' d v) : PutIs s (s'.heap H) d v := by cases s'; exact ⟨h.td, h.n, h.df, h.tm⟩

theorem putH_is {s s' : St} {d : Option Tmp} {v : AV} {H : Heap} (h : putH s d (v, H) = some s') : PutIs s s' d v ∧ s'.hp = H := by
  obtain ⟨h1, h2⟩ := put_is (show (s.heap H).put d v = some s' from h)
  exact ⟨h1.heap, by rw [h2, hp_heap]⟩

/-- What an operation has put, and the heap that it left. -/
theorem xWanted_put {o : Oper} {s s' : St} (hn : ∀ c, o.op ≠ .defer c) (h : xWanted p R rd o s = some s') : ∃ v H, putH s o.dst (v, H) = some s' := by
  have plain : oB (xOp p s o.op) (putR s o.dst) = some s' → ∃ v H, putH s o.dst (v, H) = some s' := fun hx => by
    obtain ⟨r, _, h2⟩ := oB_some hx
    cases r with
    | v x => exact ⟨x, s.hp, by show (s.heap s.hp).put _ _ = _; rw [heap_self]; exact h2⟩
    | vh x H => exact ⟨x, H, h2⟩
  unfold xWanted at h
  split at h
  · rename_i c hc; exact absurd hc (hn c)
  · obtain ⟨t, _, h2⟩ := oB_some h
    cases t with
    | plain => exact plain h2
    | func f args => obtain ⟨⟨v, H⟩, _, h3⟩ := oB_some (show oB (R.call f args s.hp) (putH s o.dst) = some s' from h2); exact ⟨v, H, h3⟩
    | yield l args => obtain ⟨⟨v, H⟩, _, h3⟩ := oB_some (show oB (R.round l args s.hp) (putH s o.dst) = some s' from h2); exact ⟨v, H, h3⟩
    | recover => cases h2
  · exact plain h

noncomputable def awayAt (n0 : Nat) (befs : List Nat) (d : DSt) : List Nat := notBefore n0 (befAt befs d.i) d.allocs
noncomputable def sAt (n0 : Nat) (befs : List Nat) (d : DSt) : St := d.s.heap (eraseAll (awayAt n0 befs d) d.s.hp)

structure Same (d d' : DSt) : Prop where
  hp : d'.s.hp = d.s.hp
  allocs : d'.allocs = d.allocs
  louds : d'.louds = d.louds
  stages : d'.stages = d.stages

inductive StepK (p : Program) (R : Rec) (rd : Option Nat) (all : List Oper) (n0 : Nat) (befs : List Nat) (o : Oper) (d d' : DSt) : AV → Prop
  | skip (hw : wantedA all d.s o = some false) (hs : Same d d') (hr : d'.reads = d.reads) : StepK p R rd all n0 befs o d d' .undef
  | calm {v : AV} (hw : wantedA all d.s o = some true) (hc : cls p o.op = .calm) (hx : xOp p (sAt n0 befs d) o.op = some (.v v)) (hs : Same d d') (hr : d'.reads = d.reads) : StepK p R rd all n0 befs o d d' v
  | reads {v : AV} (hw : wantedA all d.s o = some true) (hc : cls p o.op = .reads) (hs : Same d d') (hr : d'.reads = ⟨d.i, o.op, sAt n0 befs d, v⟩ :: d.reads) : StepK p R rd all n0 befs o d d' v
  | allocs {v : AV} {h : Heap} (hw : wantedA all d.s o = some true) (hc : cls p o.op = .allocs) (hx : xOp p ((sAt n0 befs d).heap ((sAt n0 befs d).hp.from (n0 + d.i))) o.op = some (.vh v h))
      (hh : d'.s.hp = (reviveAll d.s.hp (awayAt n0 befs d) h).from d.s.hp.n) (ha : d'.allocs = d.i :: d.allocs) (hl : d'.louds = d.louds) (hs : d'.stages = d.stages) (hr : d'.reads = d.reads) : StepK p R rd all n0 befs o d d' v
  | loud {v : AV} {H' : Heap} {s1 : St} (hw : wantedA all d.s o = some true) (hc : cls p o.op = .loud) (hx : xWanted p R rd o (sAt n0 befs d) = some s1) (hv : putH (sAt n0 befs d) o.dst (v, H') = some s1)
      (hh : d'.s.hp = reviveAll d.s.hp (awayAt n0 befs d) H') (ha : d'.allocs = d.allocs) (hl : d'.louds = d.i :: d.louds) (hs : d'.stages = d'.s.hp :: d.stages) (hr : d'.reads = d.reads) : StepK p R rd all n0 befs o d d' v

theorem dStep_k {o : Oper} {d d' : DSt} (h : dStep p R rd all n0 befs o d = some d') : ∃ v, StepK p R rd all n0 befs o d d' v ∧ PutIs d.s d'.s o.dst v ∧ d'.i = d.i + 1 := by
  obtain ⟨b, h1, h2⟩ := oB_some h
  cases b with
  | false =>
    obtain ⟨s1, h3, rfl⟩ := oM_some (show oM (dNext d) (d.s.put o.dst .undef) = some d' from h2)
    obtain ⟨k1, k2⟩ := put_is h3
    cases d
    exact ⟨_, .skip h1 ⟨k2, rfl, rfl, rfl⟩ rfl, k1, rfl⟩
  | true =>
    have h3 : dCls p R rd o n0 d (awayAt n0 befs d) (sAt n0 befs d) (cls p o.op) = some d' := h2
    cases hc : cls p o.op with
    | calm =>
      rw [hc] at h3
      obtain ⟨r, h4, h5⟩ := oB_some (show oB (xOp p (sAt n0 befs d) o.op) (dCalmR d o.dst) = some d' from h3)
      cases r with
      | vh a H => cases h5
      | v a =>
        obtain ⟨s1, h6, rfl⟩ := oM_some (show oM (dNext d) (d.s.put o.dst a) = some d' from h5)
        obtain ⟨k1, k2⟩ := put_is h6
        cases d
        exact ⟨_, .calm h1 hc h4 ⟨k2, rfl, rfl, rfl⟩ rfl, k1, rfl⟩
    | reads =>
      rw [hc] at h3
      obtain ⟨r, h4, h5⟩ := oB_some (show oB (xOp p (sAt n0 befs d) o.op) (dReadR d o (sAt n0 befs d)) = some d' from h3)
      cases r with
      | vh a H => cases h5
      | v a =>
        obtain ⟨s1, h6, rfl⟩ := oM_some (show oM (dRead d o (sAt n0 befs d) a) (d.s.put o.dst a) = some d' from h5)
        obtain ⟨k1, k2⟩ := put_is h6
        cases d
        exact ⟨_, .reads h1 hc ⟨k2, rfl, rfl, rfl⟩ rfl, k1, rfl⟩
    | allocs =>
      rw [hc] at h3
      obtain ⟨r, h4, h5⟩ := oB_some (show oB (xOp p ((sAt n0 befs d).heap ((sAt n0 befs d).hp.from (n0 + d.i))) o.op) (dAllocR d (awayAt n0 befs d) o.dst) = some d' from h3)
      cases r with
      | v a => cases h5
      | vh a H =>
        obtain ⟨s1, h6, rfl⟩ := oM_some (show oM (dAlloc d) (putH d.s o.dst (a, (reviveAll d.s.hp (awayAt n0 befs d) H).from d.s.hp.n)) = some d' from h5)
        obtain ⟨k1, k2⟩ := putH_is h6
        refine ⟨a, .allocs (v := a) (h := H) h1 hc h4 ?_ ?_ ?_ ?_ ?_, ?_, ?_⟩ <;> cases d <;> first | exact k2 | exact k1 | rfl
    | loud =>
      rw [hc] at h3
      obtain ⟨s1, h4, rfl⟩ := oM_some (show oM (dLoudS d (awayAt n0 befs d)) (xWanted p R rd o (sAt n0 befs d)) = some d' from h3)
      obtain ⟨v, H', h5⟩ := xWanted_put (fun c hd => by rw [hd] at hc; cases hc) h4
      obtain ⟨k1, k2⟩ := putH_is h5
      refine ⟨v, .loud (v := v) (H' := H') (s1 := s1) h1 hc h4 h5 ?_ ?_ ?_ ?_ ?_, ?_, ?_⟩
      · have : (dLoudS d (awayAt n0 befs d) s1).s.hp = reviveAll d.s.hp (awayAt n0 befs d) s1.hp := by cases d; cases s1; rfl
        rw [this, k2]
      · cases d; rfl
      · cases d; rfl
      · cases d; rfl
      · cases d; rfl
      · have e : PutIs d.s s1 o.dst v := PutIs.heap k1
        have : (dLoudS d (awayAt n0 befs d) s1).s = s1.heap (reviveAll d.s.hp (awayAt n0 befs d) s1.hp) := by cases d; rfl
        rw [this]; exact e.to
      · cases d; rfl
    | never => rw [hc] at h3; cases h3

theorem xDraw_trace {s' : St} : ∀ (l : List Oper) (i : Nat) (d0 : DSt), all.drop i = l → i ≤ all.length → xDraw p R rd all n0 befs l d0 = some s' →
    ∃ d : Nat → DSt, d i = d0 ∧ (∀ q, i ≤ q → q < all.length → ∃ o, all[q]? = some o ∧ dStep p R rd all n0 befs o (d q) = some (d (q + 1))) ∧ dEnd p n0 befs (d all.length) = some s'
  | [], i, d0, hl, hi, h => by
    have : i = all.length := by
      have := congrArg List.length hl; simp at this; omega
    subst this
    exact ⟨fun _ => d0, rfl, fun q h1 h2 => by omega, h⟩
  | o :: l, i, d0, hl, hi, h => by
    obtain ⟨d1, h1, h2⟩ := oB_some (show oB (dStep p R rd all n0 befs o d0) (xDraw p R rd all n0 befs l) = some s' from h)
    have ho : all[i]? = some o := by
      have : (all.drop i)[0]? = some o := by rw [hl]; rfl
      simpa using this
    have hlt : i < all.length := (List.getElem?_eq_some_iff.1 ho).1
    have hl' : all.drop (i + 1) = l := by
      have := congrArg (List.drop 1) hl; simpa [Nat.add_comm] using this
    obtain ⟨d, e1, e2, e3⟩ := xDraw_trace l (i + 1) d1 hl' hlt h2
    refine ⟨fun q => if q = i then d0 else d q, by simp, fun q h3 h4 => ?_, ?_⟩
    · by_cases hq : q = i
      · subst hq
        refine ⟨o, ho, ?_⟩
        have : q + 1 ≠ q := by omega
        simp only [if_true, this, if_false]
        rw [e1]; exact h1
      · have : q + 1 ≠ i := by omega
        simp only [hq, this, if_false]
        exact e2 q (by omega) h4
    · have : all.length ≠ i := by omega
      simp only [this, if_false]
      exact e3

end
end Go.Shadow
namespace Go.Shadow
section
variable {p : Program} {R : Rec} {rd : Option Nat} {all : List Oper} {n0 m : Nat} {befs : List Nat} {s : St} {d : Nat → DSt} {v : Nat → AV}

/-! ### The run of a region in the order of its text -/
structure Trace (p : Program) (R : Rec) (rd : Option Nat) (all : List Oper) (n0 m : Nat) (befs : List Nat) (s : St) (d : Nat → DSt) (v : Nat → AV) : Prop where
  start : d 0 = startD s n0 m
  step : ∀ q o, all[q]? = some o → StepK p R rd all n0 befs o (d q) (d (q + 1)) (v q) ∧ PutIs (d q).s (d (q + 1)).s o.dst (v q) ∧ (d (q + 1)).i = (d q).i + 1

theorem trace_of {s' : St} (h : xDraw p R rd all n0 befs all (startD s n0 m) = some s') : ∃ d v, Trace p R rd all n0 m befs s d v ∧ dEnd p n0 befs (d all.length) = some s' := by
  obtain ⟨d, h1, h2, h3⟩ := xDraw_trace all 0 (startD s n0 m) (by simp) (Nat.zero_le _) h
  have hv : ∀ q, ∃ w : AV, ∀ o, all[q]? = some o → StepK p R rd all n0 befs o (d q) (d (q + 1)) w ∧ PutIs (d q).s (d (q + 1)).s o.dst w ∧ (d (q + 1)).i = (d q).i + 1 := by
    intro q
    by_cases hq : q < all.length
    · obtain ⟨o, e1, e2⟩ := h2 q (Nat.zero_le _) hq
      obtain ⟨w, g⟩ := dStep_k e2
      refine ⟨w, fun o' ho' => ?_⟩
      rw [e1] at ho'; cases ho'; exact g
    · refine ⟨.undef, fun o ho => ?_⟩
      exact absurd (List.getElem?_eq_some_iff.1 ho).1 hq
  exact ⟨d, fun q => Classical.choose (hv q), ⟨h1, fun q o ho => Classical.choose_spec (hv q) o ho⟩, h3⟩

theorem op_at {q : Nat} (h : q < all.length) : ∃ o, all[q]? = some o := ⟨all[q], List.getElem?_eq_getElem h⟩

namespace Trace
variable (T : Trace p R rd all n0 m befs s d v)
include T

theorem idx : ∀ q, q ≤ all.length → (d q).i = q
  | 0, _ => by rw [T.start]; rfl
  | q + 1, h => by
    obtain ⟨o, ho⟩ := op_at (all := all) h
    rw [(T.step q o ho).2.2, idx q (by omega)]

theorem frame : ∀ q, q ≤ all.length → (d q).s.td = s.td ∧ (d q).s.n = s.n ∧ (d q).s.df = s.df
  | 0, _ => by rw [T.start]; cases s; exact ⟨rfl, rfl, rfl⟩
  | q + 1, h => by
    obtain ⟨o, ho⟩ := op_at (all := all) h
    obtain ⟨h1, h2, h3⟩ := frame q (by omega)
    have := (T.step q o ho).2.1
    exact ⟨this.td.trans h1, this.n.trans h2, this.df.trans h3⟩

theorem start_tm : (d 0).s.tm = s.tm := by rw [T.start]; cases s; rfl
theorem start_get {b : Nat} : (d 0).s.hp.get b = s.hp.get b := by
  rw [T.start]; cases s; exact Heap.get_from
theorem start_n : (d 0).s.hp.n = n0 + m := by rw [T.start]; cases s; exact Heap.n_from

theorem temps {t : Tmp} {x : AV} : ∀ q, q ≤ all.length → (d q).s.tm.get s.td t = some x → (∃ k o, k < q ∧ all[k]? = some o ∧ o.dst = some t ∧ x = v k) ∨ ((∀ k o, k < q → all[k]? = some o → o.dst ≠ some t) ∧ s.tm.get s.td t = some x)
  | 0, _, h => by rw [T.start_tm] at h; exact .inr ⟨fun k o hk => by omega, h⟩
  | q + 1, hq, h => by
    obtain ⟨o, ho⟩ := op_at (all := all) hq
    have hp := (T.step q o ho).2.1
    have htd := (T.frame q (by omega)).1
    have ht := hp.tm
    have old : (d q).s.tm.get s.td t = some x → o.dst ≠ some t → (∃ k o, k < q + 1 ∧ all[k]? = some o ∧ o.dst = some t ∧ x = v k) ∨ ((∀ k o, k < q + 1 → all[k]? = some o → o.dst ≠ some t) ∧ s.tm.get s.td t = some x) := by
      intro h' hne
      rcases temps q (by omega) h' with ⟨k, o', h1, h2⟩ | ⟨h1, h2⟩
      · exact .inl ⟨k, o', by omega, h2⟩
      · refine .inr ⟨fun k o' hk ho' => ?_, h2⟩
        by_cases e : k = q
        · subst e; rw [ho] at ho'; cases ho'; exact hne
        · exact h1 k o' (by omega) ho'
    cases hd : o.dst with
    | none =>
      rw [hd] at ht
      rw [ht] at h
      exact old h (by rw [hd]; simp)
    | some t' =>
      rw [hd] at ht
      rw [ht.2, htd] at h
      by_cases e : t = t'
      · subst e
        rw [get_put_same] at h
        cases h
        exact .inl ⟨q, o, by omega, ho, hd, rfl⟩
      · exact old (get_put_ne e h) (by rw [hd]; simp; exact fun h => e h.symm)

/-! The operations that lay a block, and the loud ones. -/
theorem allocs_lt {k : Nat} : ∀ q, q ≤ all.length → k ∈ (d q).allocs → k < q
  | 0, _, h => by rw [T.start] at h; cases h
  | q + 1, hq, h => by
    obtain ⟨o, ho⟩ := op_at (all := all) hq
    have ih := allocs_lt (k := k) q (by omega)
    have hi := T.idx q (by omega)
    have hst := (T.step q o ho).1
    generalize v q = vq at hst
    cases hst with
    | skip hw hs hr => rw [hs.allocs] at h; have := ih h; omega
    | calm hw hc hx hs hr => rw [hs.allocs] at h; have := ih h; omega
    | reads hw hc hs hr => rw [hs.allocs] at h; have := ih h; omega
    | loud hw hc hx hv hh ha hl hs hr => rw [ha] at h; have := ih h; omega
    | allocs hw hc hx hh ha hl hs hr =>
      rw [ha, hi] at h
      rcases List.mem_cons.1 h with rfl | h
      · omega
      · have := ih h; omega
theorem louds_lt {k : Nat} : ∀ q, q ≤ all.length → k ∈ (d q).louds → k < q
  | 0, _, h => by rw [T.start] at h; cases h
  | q + 1, hq, h => by
    obtain ⟨o, ho⟩ := op_at (all := all) hq
    have ih := louds_lt (k := k) q (by omega)
    have hi := T.idx q (by omega)
    have hst := (T.step q o ho).1
    generalize v q = vq at hst
    cases hst with
    | skip hw hs hr => rw [hs.louds] at h; have := ih h; omega
    | calm hw hc hx hs hr => rw [hs.louds] at h; have := ih h; omega
    | reads hw hc hs hr => rw [hs.louds] at h; have := ih h; omega
    | allocs hw hc hx hh ha hl hs hr => rw [hl] at h; have := ih h; omega
    | loud hw hc hx hv hh ha hl hs hr =>
      rw [hl, hi] at h
      rcases List.mem_cons.1 h with rfl | h
      · omega
      · have := ih h; omega
theorem allocs_step {q k : Nat} (hq : q < all.length) : (k ∈ (d q).allocs → k ∈ (d (q + 1)).allocs) ∧ (k ∈ (d (q + 1)).allocs → k ≠ q → k ∈ (d q).allocs) := by
  obtain ⟨o, ho⟩ := op_at (all := all) hq
  have hi := T.idx q (by omega)
  have hst := (T.step q o ho).1
  generalize v q = vq at hst
  cases hst with
  | skip hw hs hr => rw [hs.allocs]; exact ⟨id, fun h _ => h⟩
  | calm hw hc hx hs hr => rw [hs.allocs]; exact ⟨id, fun h _ => h⟩
  | reads hw hc hs hr => rw [hs.allocs]; exact ⟨id, fun h _ => h⟩
  | loud hw hc hx hv hh ha hl hs hr => rw [ha]; exact ⟨id, fun h _ => h⟩
  | allocs hw hc hx hh ha hl hs hr =>
    rw [ha, hi]
    exact ⟨fun h => by simp [h], fun h hne => by rcases List.mem_cons.1 h with rfl | h; exact absurd rfl hne; exact h⟩
theorem louds_step {q k : Nat} (hq : q < all.length) : (k ∈ (d q).louds → k ∈ (d (q + 1)).louds) ∧ (k ∈ (d (q + 1)).louds → k ≠ q → k ∈ (d q).louds) := by
  obtain ⟨o, ho⟩ := op_at (all := all) hq
  have hi := T.idx q (by omega)
  have hst := (T.step q o ho).1
  generalize v q = vq at hst
  cases hst with
  | skip hw hs hr => rw [hs.louds]; exact ⟨id, fun h _ => h⟩
  | calm hw hc hx hs hr => rw [hs.louds]; exact ⟨id, fun h _ => h⟩
  | reads hw hc hs hr => rw [hs.louds]; exact ⟨id, fun h _ => h⟩
  | allocs hw hc hx hh ha hl hs hr => rw [hl]; exact ⟨id, fun h _ => h⟩
  | loud hw hc hx hv hh ha hl hs hr =>
    rw [hl, hi]
    exact ⟨fun h => by simp [h], fun h hne => by rcases List.mem_cons.1 h with rfl | h; exact absurd rfl hne; exact h⟩

theorem allocs_up {k q : Nat} : ∀ c, q + c ≤ all.length → k ∈ (d q).allocs → k ∈ (d (q + c)).allocs
  | 0, _, h => h
  | c + 1, hc, h => (T.allocs_step (q := q + c) (by omega)).1 (allocs_up c (by omega) h)
theorem louds_up {k q : Nat} : ∀ c, q + c ≤ all.length → k ∈ (d q).louds → k ∈ (d (q + c)).louds
  | 0, _, h => h
  | c + 1, hc, h => (T.louds_step (q := q + c) (by omega)).1 (louds_up c (by omega) h)
theorem allocs_down {k q : Nat} (hk : k < q) : ∀ c, q + c ≤ all.length → k ∈ (d (q + c)).allocs → k ∈ (d q).allocs
  | 0, _, h => h
  | c + 1, hc, h => allocs_down hk c (by omega) ((T.allocs_step (q := q + c) (by omega)).2 h (by omega))
theorem louds_down {k q : Nat} (hk : k < q) : ∀ c, q + c ≤ all.length → k ∈ (d (q + c)).louds → k ∈ (d q).louds
  | 0, _, h => h
  | c + 1, hc, h => louds_down hk c (by omega) ((T.louds_step (q := q + c) (by omega)).2 h (by omega))
theorem allocs_iff {k q : Nat} (hq : q ≤ all.length) : k ∈ (d q).allocs ↔ k < q ∧ k ∈ (d all.length).allocs := by
  have e : q + (all.length - q) = all.length := by omega
  constructor
  · intro h
    refine ⟨T.allocs_lt q hq h, ?_⟩
    have := T.allocs_up (q := q) (k := k) (all.length - q) (by omega) h
    rw [e] at this; exact this
  · rintro ⟨h1, h2⟩
    exact T.allocs_down h1 (all.length - q) (by omega) (by rw [e]; exact h2)
theorem louds_iff {k q : Nat} (hq : q ≤ all.length) : k ∈ (d q).louds ↔ k < q ∧ k ∈ (d all.length).louds := by
  have e : q + (all.length - q) = all.length := by omega
  constructor
  · intro h
    refine ⟨T.louds_lt q hq h, ?_⟩
    have := T.louds_up (q := q) (k := k) (all.length - q) (by omega) h
    rw [e] at this; exact this
  · rintro ⟨h1, h2⟩
    exact T.louds_down h1 (all.length - q) (by omega) (by rw [e]; exact h2)

theorem not_alloc {q : Nat} (hq : q < all.length) (h : (d (q + 1)).allocs = (d q).allocs) : q ∉ (d all.length).allocs := by
  intro hm
  have h1 := (T.allocs_iff (q := q + 1) hq).2 ⟨by omega, hm⟩
  rw [h] at h1
  have := T.allocs_lt q (by omega) h1
  omega
theorem not_loud {q : Nat} (hq : q < all.length) (h : (d (q + 1)).louds = (d q).louds) : q ∉ (d all.length).louds := by
  intro hm
  have h1 := (T.louds_iff (q := q + 1) hq).2 ⟨by omega, hm⟩
  rw [h] at h1
  have := T.louds_lt q (by omega) h1
  omega
theorem is_alloc {q : Nat} (hq : q < all.length) (h : (d (q + 1)).allocs = (d q).i :: (d q).allocs) : q ∈ (d all.length).allocs := by
  refine ((T.allocs_iff (q := q + 1) hq).1 ?_).2
  rw [h, T.idx q (by omega)]; simp
theorem is_loud {q : Nat} (hq : q < all.length) (h : (d (q + 1)).louds = (d q).i :: (d q).louds) : q ∈ (d all.length).louds := by
  refine ((T.louds_iff (q := q + 1) hq).1 ?_).2
  rw [h, T.idx q (by omega)]; simp
theorem lt_of_alloc {q : Nat} (h : q ∈ (d all.length).allocs) : q < all.length := T.allocs_lt _ (Nat.le_refl _) h
theorem lt_of_loud {q : Nat} (h : q ∈ (d all.length).louds) : q < all.length := T.louds_lt _ (Nat.le_refl _) h

theorem mem_away {q b : Nat} (hq : q ≤ all.length) : b ∈ awayAt n0 befs (d q) ↔ ∃ k, k < q ∧ k ∈ (d all.length).allocs ∧ (befAt befs q).testBit k = false ∧ b = n0 + k := by
  unfold awayAt
  rw [mem_notBefore, T.idx q hq]
  constructor
  · rintro ⟨k, h1, h2, h3⟩
    obtain ⟨g1, g2⟩ := (T.allocs_iff hq).1 h1
    exact ⟨k, g1, g2, h2, h3⟩
  · rintro ⟨k, h1, h2, h3, h4⟩
    exact ⟨k, (T.allocs_iff hq).2 ⟨h1, h2⟩, h3, h4⟩
end Trace

/-- An operation that lays a block lays it under the next number. -/
theorem xOp_allocs_new {o : Op} {s : St} {a : AV} {h : Heap} (hc : cls p o = .allocs) (hx : xOp p s o = some (.vh a h)) : ∃ k, h = s.hp.new k := by
  cases o <;> simp only [cls] at hc <;> first | (cases hc; done) | skip
  case call c =>
    have hc : (match c.callee with | .builtin b => clsBuiltin p c.argTypes b | _ => Cls.loud) = .allocs := hc
    split at hc
    · rename_i b hb
      cases b <;> simp only [clsBuiltin] at hc <;> first | (cases hc; done) | skip
      split at hc
      · rename_i d hd; cases d <;> cases hc
      · cases hc
    · cases hc
  case alloc t =>
    obtain ⟨z, h1, h2⟩ := oM_some (show oM (newRow s.hp t) (zeroOf p t) = some _ from hx)
    cases h2; exact ⟨_, rfl⟩
  case box t x =>
    obtain ⟨z, h1, h2⟩ := oM_some (show oM (newRow s.hp t) (ev p s x) = some _ from hx)
    cases h2; exact ⟨_, rfl⟩
  case makeMap t x =>
    cases x with
    | some _ => cases hx
    | none => cases (show some (ORes.vh (.mp s.hp.n) (s.hp.new (.map [] 0 true))) = some _ from hx); exact ⟨_, rfl⟩
  case makeSlice t l c =>
    obtain ⟨e, h1, h2⟩ := oB_some (show opMakeSl p s t l c = some _ from hx)
    obtain ⟨lv, h3, h4⟩ := oB_some h2
    obtain ⟨cv, h5, h6⟩ := oB_some h4
    obtain ⟨k, k', a, b, z, n, rfl, rfl, g1, g2, g3, g4, g5, g6, g7, g8⟩ := makeSl_some h6
    cases g8; exact ⟨_, rfl⟩
  case buildSlice t len parts =>
    obtain ⟨l, h1, h2⟩ := oB_some (show oB (evParts p s parts.toList) (buildSlice p s.hp t len) = some _ from hx)
    obtain ⟨e, h3, h4⟩ := oB_some h2
    obtain ⟨z, h5, h6⟩ := oB_some h4
    obtain ⟨n, h7, h8⟩ := oB_some h6
    obtain ⟨h9, h10⟩ := guardB_some h8
    obtain ⟨cs, h11, h12⟩ := oM_some h10
    cases h12; exact ⟨_, rfl⟩

noncomputable def layAt (n0 : Nat) (befs : List Nat) (d : DSt) : Heap := (sAt n0 befs d).hp.from (n0 + d.i)
/-- The block that the operation lays. -/
def Laid (p : Program) (all : List Oper) (n0 : Nat) (befs : List Nat) (d : Nat → DSt) (v : Nat → AV) (q : Nat) (k : ABlk) : Prop :=
  ∃ o, all[q]? = some o ∧ xOp p ((sAt n0 befs (d q)).heap (layAt n0 befs (d q))) o.op = some (.vh (v q) ((layAt n0 befs (d q)).new k))
theorem new_inj {H : Heap} {k k' : ABlk} (h : H.new k = H.new k') : k = k' := by
  have h1 := Heap.get_new (H := H) (k := k)
  rw [h, Heap.get_new] at h1
  cases h1; rfl
theorem Laid.unique {q : Nat} {k k' : ABlk} (h : Laid p all n0 befs d v q k) (h' : Laid p all n0 befs d v q k') : k = k' := by
  obtain ⟨o, h1, h2⟩ := h
  obtain ⟨o', h3, h4⟩ := h'
  rw [h1] at h3; cases h3
  rw [h2] at h4
  simp only [Option.some.injEq, ORes.vh.injEq, true_and] at h4
  exact new_inj h4

namespace Trace
variable (T : Trace p R rd all n0 m befs s d v)
include T

theorem laid {q : Nat} (h : q ∈ (d all.length).allocs) : ∃ k, Laid p all n0 befs d v q k ∧ ∀ k', (d (q + 1)).s.hp.get (n0 + q) = some k' → k' = k := by
  have hq := T.lt_of_alloc h
  obtain ⟨o, ho⟩ := op_at (all := all) hq
  have hi := T.idx q (by omega)
  have hst := (T.step q o ho).1
  generalize hvq : v q = vq at hst
  cases hst with
  | skip hw hs hr => exact absurd h (T.not_alloc hq hs.allocs)
  | calm hw hc hx hs hr => exact absurd h (T.not_alloc hq hs.allocs)
  | reads hw hc hs hr => exact absurd h (T.not_alloc hq hs.allocs)
  | loud hw hc hx hv hh ha hl hs hr => exact absurd h (T.not_alloc hq ha)
  | @allocs x h0 hw hc hx hh ha hl hs hr =>
    obtain ⟨k, hk⟩ := xOp_allocs_new hc hx
    rw [hp_heap] at hk
    subst hk
    refine ⟨k, ⟨o, ho, by rw [hvq]; exact hx⟩, fun k' hk' => ?_⟩
    rw [hh, Heap.get_from] at hk'
    rcases reviveAll_get _ _ _ hk' with ⟨h1, _⟩ | h1
    · obtain ⟨k2, g1, _, _, g2⟩ := (T.mem_away (by omega)).1 h1
      omega
    · have hn : ((sAt n0 befs (d q)).hp.from (n0 + (d q).i)).n = n0 + q := by rw [Heap.n_from, hi]
      have := Heap.get_new (H := (sAt n0 befs (d q)).hp.from (n0 + (d q).i)) (k := k)
      rw [hn] at this
      rw [this] at h1
      cases h1; rfl

/-- Between two loud ones nothing changes but that blocks are laid. -/
theorem between {t : Nat} : ∀ c, t + c ≤ all.length → (∀ l, l ∈ (d all.length).louds → t ≤ l → l < t + c → False) →
    (d (t + c)).s.hp.n = (d t).s.hp.n ∧ ∀ b k, (d (t + c)).s.hp.get b = some k → (∀ x, x ∈ (d all.length).allocs → t ≤ x → x < t + c → b ≠ n0 + x) → (d t).s.hp.get b = some k
  | 0, _, _ => ⟨rfl, fun b k h _ => h⟩
  | c + 1, hc, hl => by
    obtain ⟨ih1, ih2⟩ := between c (by omega) (fun l h1 h2 h3 => hl l h1 h2 (by omega))
    obtain ⟨o, ho⟩ := op_at (all := all) (show t + c < all.length by omega)
    have hi := T.idx (t + c) (by omega)
    have same : Same (d (t + c)) (d (t + c + 1)) → (d (t + (c + 1))).s.hp.n = (d t).s.hp.n ∧ ∀ b k, (d (t + (c + 1))).s.hp.get b = some k → (∀ x, x ∈ (d all.length).allocs → t ≤ x → x < t + (c + 1) → b ≠ n0 + x) → (d t).s.hp.get b = some k := by
      intro hs
      have e : (d (t + (c + 1))).s.hp = (d (t + c)).s.hp := hs.hp
      rw [e]
      exact ⟨ih1, fun b k h hx => ih2 b k h (fun x h1 h2 h3 => hx x h1 h2 (by omega))⟩
    have hst := (T.step (t + c) o ho).1
    generalize v (t + c) = vq at hst
    cases hst with
    | skip hw hs hr => exact same hs
    | calm hw hc' hx hs hr => exact same hs
    | reads hw hc' hs hr => exact same hs
    | loud hw hc' hx hv hh ha hl' hs hr => exact (hl (t + c) (T.is_loud (by omega) hl') (by omega) (by omega)).elim
    | allocs hw hc' hx hh ha hl' hs hr =>
      obtain ⟨k0, hk0⟩ := xOp_allocs_new hc' hx
      have hal := T.is_alloc (by omega) ha
      refine ⟨?_, fun b k h hne => ?_⟩
      · show (d (t + c + 1)).s.hp.n = _
        rw [hh, Heap.n_from]; exact ih1
      · have h' : (d (t + c + 1)).s.hp.get b = some k := h
        rw [hh, Heap.get_from] at h'
        have old : (d (t + c)).s.hp.get b = some k := by
          rcases reviveAll_get _ _ _ h' with ⟨_, h1⟩ | h1
          · exact h1
          · rw [hk0, hp_heap] at h1
            have hb : b ≠ ((sAt n0 befs (d (t + c))).hp.from (n0 + (d (t + c)).i)).n := by
              rw [Heap.n_from, hi]
              exact hne (t + c) hal (by omega) (by omega)
            have h2 := Heap.get_new_ne hb h1
            rw [Heap.get_from] at h2
            unfold sAt at h2
            rw [hp_heap] at h2
            exact (eraseAll_get _ _ h2).2
        exact ih2 b k old (fun x h1 h2 h3 => hne x h1 h2 (by omega))
end Trace
end
end Go.Shadow
namespace Go.Shadow
section
variable {p : Program} {R : Rec} {rd : Option Nat} {all : List Oper} {n0 m : Nat} {befs : List Nat} {s : St} {d : Nat → DSt} {v : Nat → AV}

/-! ### Stages -/
theorem stagesOk_at {r : Rd} {allocs : List Nat} : ∀ (L1 : List Nat) (S1 : List Heap) (dn : List Nat) (h : Heap) (S2 : List Heap) (L2 : List Nat), S1.length = L1.length → S2.length = L2.length →
    stagesOk p n0 befs allocs r dn (S1 ++ h :: S2) (L1 ++ L2) = true → stageOk p n0 befs allocs r (L1.reverse ++ dn) h L2 = true
  | [], [], dn, h, S2, L2, _, h2, hx => by
    cases L2 with
    | nil =>
      cases S2 with
      | nil => exact hx
      | cons a b => cases h2
    | cons k L2 =>
      have hx' : (stageOk p n0 befs allocs r dn h (k :: L2) && stagesOk p n0 befs allocs r (k :: dn) S2 L2) = true := hx
      simp only [Bool.and_eq_true] at hx'
      exact hx'.1
  | k :: L1, h1 :: S1, dn, h, S2, L2, e1, e2, hx => by
    have hx' : (stageOk p n0 befs allocs r dn h1 (k :: (L1 ++ L2)) && stagesOk p n0 befs allocs r (k :: dn) (S1 ++ h :: S2) (L1 ++ L2)) = true := hx
    simp only [Bool.and_eq_true] at hx'
    have := stagesOk_at L1 S1 (k :: dn) h S2 L2 (by simpa using e1) e2 hx'.2
    simpa using this
  | [], _ :: _, _, _, _, _, h, _, _ => by cases h
  | _ :: _, [], _, _, _, _, h, _, _ => by cases h

theorem allReads_mem {allocs louds : List Nat} {stages : List Heap} : ∀ {l : List Rd} {r : Rd}, allReads p n0 befs allocs stages louds l = true → r ∈ l → stagesOk p n0 befs allocs r [] stages louds = true
  | a :: l, r, h, hm => by
    have h' : (stagesOk p n0 befs allocs a [] stages louds && allReads p n0 befs allocs stages louds l) = true := h
    simp only [Bool.and_eq_true] at h'
    rcases List.mem_cons.1 hm with rfl | hm
    · exact h'.1
    · exact allReads_mem h'.2 hm

theorem chainOk_mid {a b : Nat} : ∀ (x y : List Nat), chainOk befs (x ++ a :: b :: y) = true → (befAt befs b).testBit a = true
  | [], y, h => by
    have h' : ((befAt befs b).testBit a && chainOk befs (b :: y)) = true := h
    simp only [Bool.and_eq_true] at h'
    exact h'.1
  | [c], y, h => by
    have h' : ((befAt befs a).testBit c && chainOk befs (a :: b :: y)) = true := h
    simp only [Bool.and_eq_true] at h'
    exact chainOk_mid [] y h'.2
  | c :: e :: x, y, h => by
    have h' : ((befAt befs e).testBit c && chainOk befs (e :: x ++ a :: b :: y)) = true := h
    simp only [Bool.and_eq_true] at h'
    exact chainOk_mid (e :: x) y h'.2

namespace Trace
variable (T : Trace p R rd all n0 m befs s d v)
include T

theorem lens : ∀ q, q ≤ all.length → (d q).stages.length = (d q).louds.length + 1
  | 0, _ => by rw [T.start]; rfl
  | q + 1, hq => by
    obtain ⟨o, ho⟩ := op_at (all := all) hq
    have ih := lens q (by omega)
    have hst := (T.step q o ho).1
    generalize v q = vq at hst
    cases hst with
    | skip hw hs hr => rw [hs.louds, hs.stages]; exact ih
    | calm hw hc hx hs hr => rw [hs.louds, hs.stages]; exact ih
    | reads hw hc hs hr => rw [hs.louds, hs.stages]; exact ih
    | allocs hw hc hx hh ha hl hs hr => rw [hl, hs]; exact ih
    | loud hw hc hx hv hh ha hl hs hr => rw [hl, hs]; simp [ih]

theorem stages : ∀ q, q ≤ all.length → ∀ t, (t = 0 ∨ ∃ l, t = l + 1 ∧ l ∈ (d q).louds) → ∃ S1 S2 L1 L2, (d q).stages.reverse = S1 ++ (d t).s.hp :: S2 ∧ (d q).louds.reverse = L1 ++ L2 ∧ S1.length = L1.length ∧ S2.length = L2.length ∧ (∀ l, l ∈ L1 → l < t) ∧ (∀ l, l ∈ L2 → t ≤ l)
  | 0, _, t, ht => by
    rcases ht with rfl | ⟨l, _, hl⟩
    · refine ⟨[], [], [], [], ?_, ?_, rfl, rfl, by simp, by simp⟩
      · rw [T.start]; cases s; rfl
      · rw [T.start]; rfl
    · rw [T.start] at hl; cases hl
  | q + 1, hq, t, ht => by
    obtain ⟨o, ho⟩ := op_at (all := all) hq
    have ih := stages q (by omega) t
    have hi := T.idx q (by omega)
    have hlen := T.lens q (by omega)
    have hst := (T.step q o ho).1
    generalize v q = vq at hst
    have keep : (d (q + 1)).louds = (d q).louds → (d (q + 1)).stages = (d q).stages → ∃ S1 S2 L1 L2, (d (q + 1)).stages.reverse = S1 ++ (d t).s.hp :: S2 ∧ (d (q + 1)).louds.reverse = L1 ++ L2 ∧ S1.length = L1.length ∧ S2.length = L2.length ∧ (∀ l, l ∈ L1 → l < t) ∧ (∀ l, l ∈ L2 → t ≤ l) := by
      intro e1 e2
      rw [e1] at ht
      rw [e1, e2]
      exact ih ht
    cases hst with
    | skip hw hs hr => exact keep hs.louds hs.stages
    | calm hw hc hx hs hr => exact keep hs.louds hs.stages
    | reads hw hc hs hr => exact keep hs.louds hs.stages
    | allocs hw hc hx hh ha hl hs hr => exact keep hl hs
    | loud hw hc hx hv hh ha hl hs hr =>
      rw [hl, hi] at ht
      have ht' : t = q + 1 ∨ (t = 0 ∨ ∃ l, t = l + 1 ∧ l ∈ (d q).louds) := by
        rcases ht with h | ⟨l, h1, h2⟩
        · exact .inr (.inl h)
        · rcases List.mem_cons.1 h2 with rfl | h2
          · exact .inl h1
          · exact .inr (.inr ⟨l, h1, h2⟩)
      rw [hs, hl, hi]
      rcases ht' with rfl | ht'
      · refine ⟨(d q).stages.reverse, [], (d q).louds.reverse ++ [q], [], by simp, by simp, by simp [hlen], rfl, fun l hl' => ?_, by simp⟩
        simp at hl'
        rcases hl' with h | rfl
        · have := T.louds_lt q (by omega) h; omega
        · omega
      · obtain ⟨S1, S2, L1, L2, e1, e2, e3, e4, e5, e6⟩ := ih ht'
        refine ⟨S1, S2 ++ [(d (q + 1)).s.hp], L1, L2 ++ [q], by simp [e1], by simp [e2], e3, by simp [e4], e5, fun l hl' => ?_⟩
        rcases List.mem_append.1 hl' with h | h
        · exact e6 l h
        · simp at h; subst h
          rcases ht' with rfl | ⟨l', rfl, h'⟩
          · omega
          · have := T.louds_lt l (by omega) h'; omega

theorem read_mem {q : Nat} {r : Rd} (hq : q < all.length) (h : (d (q + 1)).reads = r :: (d q).reads) : r ∈ (d all.length).reads := by
  have up : ∀ c, q + 1 + c ≤ all.length → r ∈ (d (q + 1 + c)).reads := by
    intro c
    induction c with
    | zero => intro _; rw [Nat.add_zero, h]; simp
    | succ c ih =>
      intro hc
      have ih := ih (by omega)
      obtain ⟨o, ho⟩ := op_at (all := all) (show q + 1 + c < all.length by omega)
      have hst := (T.step (q + 1 + c) o ho).1
      generalize v (q + 1 + c) = vq at hst
      show r ∈ (d (q + 1 + c + 1)).reads
      cases hst with
      | skip hw hs hr => rw [hr]; exact ih
      | calm hw hc hx hs hr => rw [hr]; exact ih
      | reads hw hc hs hr => rw [hr]; simp [ih]
      | allocs hw hc hx hh ha hl hs hr => rw [hr]; exact ih
      | loud hw hc hx hv hh ha hl hs hr => rw [hr]; exact ih
  have := up (all.length - (q + 1)) (by omega)
  rwa [show q + 1 + (all.length - (q + 1)) = all.length by omega] at this

/-- The loud one before a loud one stands before it in every order. -/
theorem chain {a b : Nat} (hc : chainOk befs (d all.length).louds.reverse = true) (ha : a ∈ (d all.length).louds) (hb : b ∈ (d all.length).louds) (hab : a < b)
    (hno : ∀ l, l ∈ (d all.length).louds → a < l → l < b → False) : (befAt befs b).testBit a = true := by
  have hbN := T.lt_of_loud hb
  have tops : ∀ q, q ≤ all.length → a < q → (∀ l, l ∈ (d all.length).louds → a < l → l < q → False) → ∃ rest, (d q).louds = a :: rest := by
    intro q
    induction q with
    | zero => intro _ h; omega
    | succ q ih =>
      intro hq h1 h2
      obtain ⟨o, ho⟩ := op_at (all := all) hq
      have hi := T.idx q (by omega)
      by_cases e : a = q
      · subst e
        have hst := (T.step a o ho).1
        generalize v a = vq at hst
        cases hst with
        | skip hw hs hr => exact absurd ha (T.not_loud hq hs.louds)
        | calm hw hc hx hs hr => exact absurd ha (T.not_loud hq hs.louds)
        | reads hw hc hs hr => exact absurd ha (T.not_loud hq hs.louds)
        | allocs hw hc hx hh ha' hl hs hr => exact absurd ha (T.not_loud hq hl)
        | loud hw hc hx hv hh ha' hl hs hr => rw [hl, hi]; exact ⟨_, rfl⟩
      · obtain ⟨rest, hr0⟩ := ih (by omega) (by omega) (fun l g1 g2 g3 => h2 l g1 g2 (by omega))
        have hst := (T.step q o ho).1
        generalize v q = vq at hst
        cases hst with
        | skip hw hs hr => rw [hs.louds]; exact ⟨_, hr0⟩
        | calm hw hc hx hs hr => rw [hs.louds]; exact ⟨_, hr0⟩
        | reads hw hc hs hr => rw [hs.louds]; exact ⟨_, hr0⟩
        | allocs hw hc hx hh ha' hl hs hr => rw [hl]; exact ⟨_, hr0⟩
        | loud hw hc hx hv hh ha' hl hs hr => exact (h2 q (T.is_loud hq hl) (by omega) (by omega)).elim
  obtain ⟨rest, hr0⟩ := tops b (by omega) hab hno
  have hb1 : (d (b + 1)).louds = b :: a :: rest := by
    obtain ⟨o, ho⟩ := op_at (all := all) hbN
    have hst := (T.step b o ho).1
    generalize v b = vq at hst
    cases hst with
    | skip hw hs hr => exact absurd hb (T.not_loud hbN hs.louds)
    | calm hw hc hx hs hr => exact absurd hb (T.not_loud hbN hs.louds)
    | reads hw hc hs hr => exact absurd hb (T.not_loud hbN hs.louds)
    | allocs hw hc hx hh ha' hl hs hr => exact absurd hb (T.not_loud hbN hl)
    | loud hw hc hx hv hh ha' hl hs hr => rw [hl, T.idx b (by omega), hr0]
  have suf : ∀ c, b + 1 + c ≤ all.length → ∃ pre, (d (b + 1 + c)).louds = pre ++ b :: a :: rest := by
    intro c
    induction c with
    | zero => intro _; exact ⟨[], hb1⟩
    | succ c ih =>
      intro hc
      obtain ⟨pre, hpre⟩ := ih (by omega)
      obtain ⟨o, ho⟩ := op_at (all := all) (show b + 1 + c < all.length by omega)
      have hst := (T.step (b + 1 + c) o ho).1
      generalize v (b + 1 + c) = vq at hst
      show ∃ pre, (d (b + 1 + c + 1)).louds = pre ++ b :: a :: rest
      cases hst with
      | skip hw hs hr => rw [hs.louds]; exact ⟨pre, hpre⟩
      | calm hw hc hx hs hr => rw [hs.louds]; exact ⟨pre, hpre⟩
      | reads hw hc hs hr => rw [hs.louds]; exact ⟨pre, hpre⟩
      | allocs hw hc hx hh ha hl hs hr => rw [hl]; exact ⟨pre, hpre⟩
      | loud hw hc hx hv hh ha hl hs hr => rw [hl, hpre]; exact ⟨_ :: pre, rfl⟩
  obtain ⟨pre, hpre⟩ := suf (all.length - (b + 1)) (by omega)
  rw [show b + 1 + (all.length - (b + 1)) = all.length by omega] at hpre
  rw [hpre] at hc
  have hrev : (pre ++ b :: a :: rest).reverse = rest.reverse ++ a :: b :: pre.reverse := by simp
  rw [hrev] at hc
  exact chainOk_mid _ _ hc
end Trace

/-! ### What stands before -/
theorem beforeBits_iff {acc : List Nat} {k : Nat} : ∀ (l : List Edge) (x : Nat), (beforeBits acc l x).testBit k = true ↔ x.testBit k = true ∨ ∃ e, e ∈ l ∧ Region.binds .any e = true ∧ (k = e.on ∨ ((nth acc e.on).getD 0).testBit k = true)
  | [], x => by simp [beforeBits]
  | e :: l, x => by
    unfold beforeBits
    cases hb : Region.binds .any e with
    | true =>
      simp only [beforeBits_iff l, Nat.testBit_or, Bool.or_eq_true, Nat.testBit_two_pow, decide_eq_true_eq]
      constructor
      · rintro (((h | h) | h) | ⟨e', h1, h2⟩)
        · exact .inl h
        · exact .inr ⟨e, by simp, hb, .inl h.symm⟩
        · exact .inr ⟨e, by simp, hb, .inr h⟩
        · exact .inr ⟨e', by simp [h1], h2⟩
      · rintro (h | ⟨e', h1, h2, h3⟩)
        · exact .inl (.inl (.inl h))
        · rcases List.mem_cons.1 h1 with rfl | h1
          · rcases h3 with h3 | h3
            · exact .inl (.inl (.inr h3.symm))
            · exact .inl (.inr h3)
          · exact .inr ⟨e', h1, h2, h3⟩
    | false =>
      simp only [beforeBits_iff l]
      constructor
      · rintro (h | ⟨e', h1, h2⟩)
        · exact .inl h
        · exact .inr ⟨e', by simp [h1], h2⟩
      · rintro (h | ⟨e', h1, h2, h3⟩)
        · exact .inl h
        · rcases List.mem_cons.1 h1 with rfl | h1
          · rw [hb] at h2; cases h2
          · exact .inr ⟨e', h1, h2, h3⟩

theorem befores_pre : ∀ (l : List Oper) (acc : List Nat), ∃ more, befores l acc = acc ++ more
  | [], acc => ⟨[], by simp [befores]⟩
  | o :: l, acc => by
    obtain ⟨more, h⟩ := befores_pre l (acc ++ [beforeBits acc o.after.toList 0])
    exact ⟨beforeBits acc o.after.toList 0 :: more, by unfold befores; rw [h]; simp⟩
theorem befores_at (l : List Oper) : ∀ (acc : List Nat) (i : Nat) (o : Oper), l[i]? = some o → ∃ pre, pre.length = acc.length + i ∧ (∃ more, befores l acc = pre ++ more) ∧ nth (befores l acc) (acc.length + i) = some (beforeBits pre o.after.toList 0) := by
  induction l with
  | nil => intro acc i o h; simp at h
  | cons o l ih =>
    intro acc i o' h
    cases i with
    | zero =>
      have h' : o = o' := by simpa using h
      subst h'
      obtain ⟨more, hm⟩ := befores_pre l (acc ++ [beforeBits acc o.after.toList 0])
      refine ⟨acc, by simp, befores_pre _ _, ?_⟩
      unfold befores
      rw [nth_eq, hm]
      simp
    | succ i =>
      obtain ⟨pre, h1, ⟨more, h2⟩, h3⟩ := ih (acc ++ [beforeBits acc o.after.toList 0]) i o' (by simpa using h)
      refine ⟨pre, by simp at h1; omega, ⟨more, h2⟩, ?_⟩
      have : acc.length + (i + 1) = (acc ++ [beforeBits acc o.after.toList 0]).length + i := by simp; omega
      rw [this]
      exact h3

theorem befAt_iff {all : List Oper} {i k : Nat} {o : Oper} (ho : all[i]? = some o) : (befAt (befores all []) i).testBit k = true ↔ ∃ e, e ∈ o.after.toList ∧ Region.binds .any e = true ∧ (k = e.on ∨ (e.on < i ∧ (befAt (befores all []) e.on).testBit k = true)) := by
  obtain ⟨pre, h1, ⟨more, h2⟩, h3⟩ := befores_at all [] i o ho
  simp at h1 h3
  have e1 : befAt (befores all []) i = beforeBits pre o.after.toList 0 := by unfold befAt; rw [h3]; rfl
  rw [e1, beforeBits_iff]
  have hpre : ∀ j, (nth pre j).getD 0 = if j < i then befAt (befores all []) j else 0 := by
    intro j
    unfold befAt
    rw [nth_eq, nth_eq, h2]
    by_cases hj : j < i
    · rw [if_pos hj, List.getElem?_append_left (by omega)]
    · rw [if_neg hj, List.getElem?_eq_none (by omega)]; rfl
  constructor
  · rintro (h | ⟨e, h4, h5, h6⟩)
    · simp at h
    · refine ⟨e, h4, h5, ?_⟩
      rcases h6 with h6 | h6
      · exact .inl h6
      · rw [hpre] at h6
        by_cases hj : e.on < i
        · rw [if_pos hj] at h6; exact .inr ⟨hj, h6⟩
        · rw [if_neg hj] at h6; simp at h6
  · rintro ⟨e, h4, h5, h6⟩
    refine .inr ⟨e, h4, h5, ?_⟩
    rcases h6 with h6 | ⟨h6, h7⟩
    · exact .inl h6
    · rw [hpre, if_pos h6]; exact .inr h7

/-! ### What the executor has looked over -/
structure RowOk (befs : List Nat) (all : List Oper) (i : Nat) (o : Oper) : Prop where
  pair : ∀ k w t, all[k]? = some w → i ≠ k → w.dst = some t → o.dst ≠ some t ∧ (Operand.tmp t ∈ o.op.operands.toList → (befAt befs i).testBit k = true ∨ (befAt befs k).testBit i = true)
  guard : ∀ g, o.guard = some g → (befAt befs i).testBit g.1 = true
  low : ∀ k, (befAt befs i).testBit k = true → k < i

theorem rowOk_pair {i : Nat} {o : Oper} (l : List Oper) : ∀ (k0 k : Nat) (w : Oper), rowOk befs i o k0 l = true → l[k]? = some w → i ≠ k0 + k → pairOk befs i (k0 + k) o w = true := by
  induction l with
  | nil => intro k0 k w _ h; simp at h
  | cons a l ih =>
    intro k0 k w h hk hne
    have h' : ((Nat.beq i k0 || pairOk befs i k0 o a) && rowOk befs i o (Nat.succ k0) l) = true := h
    simp only [Bool.and_eq_true, Bool.or_eq_true] at h'
    cases k with
    | zero =>
      have e : a = w := by simpa using hk
      subst e
      rcases h'.1 with h1 | h1
      · exact absurd (beq_eq h1) hne
      · exact h1
    | succ k =>
      have := ih (k0 + 1) k w h'.2 (by simpa using hk) (by omega)
      rwa [show k0 + 1 + k = k0 + (k + 1) by omega] at this

theorem looks_of {o : Oper} {t : Tmp} (h : Operand.tmp t ∈ o.op.operands.toList) : looks o t = true := by
  unfold looks
  rw [List.any_eq_true]
  exact ⟨_, h, by simp [isTmp]⟩

theorem rowsOk_at {all : List Oper} (l : List Oper) : ∀ (i0 i : Nat) (o : Oper), rowsOk befs all i0 l = true → l[i]? = some o → RowOk befs all (i0 + i) o := by
  induction l with
  | nil => intro i0 i o _ h; simp at h
  | cons a l ih =>
    intro i0 i o h ho
    have h' : (rowOk befs i0 a 0 all && guardIn befs i0 a && Nat.beq (Nat.shiftRight (befAt befs i0) i0) 0 && rowsOk befs all (Nat.succ i0) l) = true := h
    simp only [Bool.and_eq_true] at h'
    obtain ⟨⟨⟨h1, h2⟩, h3⟩, h4⟩ := h'
    cases i with
    | succ i =>
      have := ih (i0 + 1) i o h4 (by simpa using ho)
      rwa [show i0 + 1 + i = i0 + (i + 1) by omega] at this
    | zero =>
      have e : a = o := by simpa using ho
      subst e
      refine ⟨fun k w t hk hne hd => ?_, fun g hg => ?_, fun k hk => ?_⟩
      · have := rowOk_pair all 0 k w h1 hk (by omega)
        unfold pairOk at this
        rw [hd] at this
        simp only [Nat.zero_add, Bool.and_eq_true, Bool.or_eq_true, Bool.not_eq_true'] at this
        refine ⟨fun e => ?_, fun hl => ?_⟩
        · rw [e] at this; simp [dstIs] at this
        · rcases this.2 with h5 | h5
          · rw [looks_of hl] at h5; cases h5
          · unfold ordered at h5; simpa using h5
      · unfold guardIn at h2; rw [hg] at h2; exact h2
      · have h5 := beq_eq h3
        rcases Nat.lt_or_ge k (i0 + 0) with h6 | h6
        · exact h6
        · exfalso
          have : (befAt befs i0 >>> i0).testBit (k - i0) = (befAt befs i0).testBit (i0 + (k - i0)) := Nat.testBit_shiftRight _
          rw [show i0 + (k - i0) = k by omega] at this
          have hk' : (befAt befs i0).testBit k = true := hk
          rw [hk', show befAt befs i0 >>> i0 = 0 from h5] at this
          simp at this

end
end Go.Shadow
namespace Go.Shadow
section
variable {p : Program} {R : Rec}

theorem fnEq_eq {f g : Fn} (h : fnEq f g = true) : f = g := by
  unfold fnEq at h
  split at h
  · rw [beq_eq h]
  · rw [beq_eq h]
  · cases h
theorem byNats_true {l m : List Nat} (h : byNats l m = true) : l = m := by rw [byNats_eq] at h; simpa using h
theorem eqI_true {a b : Int} (h : eqI a b = true) : a = b := by rw [eqI_eq] at h; simpa using h

mutual
theorem avEq_eq : ∀ (a b : AV), avEq a b = true → a = b
  | .bool a, b, h => by cases b <;> simp [avEq] at h; rw [h]
  | .int k a, b, h => by
    cases b <;> simp [avEq] at h
    rw [kindEq_eq h.1, eqI_true h.2]
  | .str a, b, h => by cases b <;> simp [avEq] at h; rw [byNats_true h]
  | .ptr a c, b, h => by cases b <;> simp [avEq] at h; rw [h.1, h.2]
  | .nilptr, b, h => by cases b <;> simp [avEq] at h; rfl
  | .nilsl, b, h => by cases b <;> simp [avEq] at h; rfl
  | .nilmp, b, h => by cases b <;> simp [avEq] at h; rfl
  | .nilfn, b, h => by cases b <;> simp [avEq] at h; rfl
  | .nilif, b, h => by cases b <;> simp [avEq] at h; rfl
  | .sl a1 a2 a3 a4 a5, b, h => by
    cases b <;> simp [avEq] at h
    obtain ⟨⟨⟨⟨h1, h2⟩, h3⟩, h4⟩, h5⟩ := h
    rw [h1, h2, h3, h4, h5]
  | .mp a, b, h => by cases b <;> simp [avEq] at h; rw [h]
  | .fn f x y, b, h => by
    cases b with
    | fn g x' y' =>
      simp only [avEq, Bool.and_eq_true] at h
      rw [fnEq_eq h.1.1, avEqs_eq x x' h.1.2, avEqs_eq y y' h.2]
    | _ => simp [avEq] at h
  | .ifc t a, b, h => by
    cases b with
    | ifc u a' =>
      simp only [avEq, Bool.and_eq_true] at h
      rw [beq_eq h.1, avEq_eq a a' h.2]
    | _ => simp [avEq] at h
  | .agg l, b, h => by
    cases b with
    | agg l' => simp only [avEq] at h; rw [avEqs_eq l l' h]
    | _ => simp [avEq] at h
  | .tup l, b, h => by
    cases b with
    | tup l' => simp only [avEq] at h; rw [avEqs_eq l l' h]
    | _ => simp [avEq] at h
  | .any, b, h => by cases b <;> simp [avEq] at h
  | .v32, b, h => by cases b <;> simp [avEq] at h; rfl
theorem avEqs_eq : ∀ (l m : List AV), avEqs l m = true → l = m
  | [], m, h => by cases m <;> simp [avEqs] at h; rfl
  | a :: l, m, h => by
    cases m with
    | nil => simp [avEqs] at h
    | cons b m =>
      simp only [avEqs, Bool.and_eq_true] at h
      rw [avEq_eq a b h.1, avEqs_eq l m h.2]
end

/-- A loud operation: a value and a heap. -/
theorem xWanted_does (G : Good p R) {φ : Phi} {rd : Option Nat} {F : Fence} {n : Nat} {o : Oper} {s s1 : St} {a : Act} {w : World} {next : Act → World → Prop} {Q : Exit → Act → World → Prop} (hr : RdF φ rd F) (hH : HR p φ s.hp w)
    (hρ : EvR φ p s a.eval o.op.operands.toList) (hd : ∀ c, o.op ≠ .defer c) (hx : xWanted p R rd o s = some s1)
    (hn : ∀ φ' v1 H1 v' w', putH s o.dst (v1, H1) = some s1 → VR φ' v1 v' → HR p φ' H1 w' → Step φ s.hp w φ' H1 w' → next (a.put o.dst v') w') : o.wpIn F n p a w next Q := by
  have plain : oB (xOp p s o.op) (putR s o.dst) = some s1 → o.wpIn F n p a w next Q := fun hx => by
    obtain ⟨r, h1, h2⟩ := oB_some hx
    obtain ⟨nx, v', w', φ', e1, e2, e3, e4, e5⟩ := xOp_sound hH hρ h1
    have hput : putH s o.dst (r.val, r.heap s.hp) = some s1 := by
      cases r with
      | v x => show (s.heap s.hp).put _ _ = _; rw [heap_self]; exact h2
      | vh x H => exact h2
    refine ⟨defer_about hr.fn, ?_⟩
    rw [Oper.semAt_eq F.round a.eval o hd, e1]
    rcases e2 with rfl | ⟨rfl, rfl⟩
    · exact hn _ _ _ _ _ hput e3 e4 e5
    · exact hn _ _ _ _ _ hput e3 e4 e5
  cases ho : o.op
  case defer c => exact absurd ho (hd c)
  case call c =>
    have hx0 := hx
    unfold xWanted at hx
    rw [ho] at hx
    obtain ⟨tgt, h1, h2⟩ := oB_some (show oB (target p s (.call c)) (xTgt p R s o) = some s1 from hx)
    have ht := target_sound (w := w) hH ho hρ (by rw [ho]; exact h1)
    cases tgt with
    | plain => exact plain h2
    | recover => cases h2
    | func f args =>
      obtain ⟨⟨v2, H2⟩, h3, h4⟩ := oB_some (show oB (R.call f args s.hp) (putH s o.dst) = some s1 from h2)
      obtain ⟨args', e1, e2⟩ := ht
      refine ⟨defer_about hr.fn, ?_⟩
      rw [Oper.semAt_eq F.round a.eval o hd, e2]
      rcases G.call hH e1 h3 with ⟨v', w', g1, φ', g2, g3, g4⟩ | ⟨g1, g2⟩
      · rw [g1]
        exact hn _ _ _ _ _ h4 g2 g3 g4
      · rw [g1]
        refine ⟨hr.depth, hr.calls ((g2 (n - 1)).mono ?_)⟩
        rintro e w' ⟨v', rfl, φ', k1, k2, k3⟩
        exact hn _ _ _ _ _ h4 k1 k2 k3
    | yield l args =>
      obtain ⟨⟨v2, H2⟩, h3, h4⟩ := oB_some (show oB (R.round l args s.hp) (putH s o.dst) = some s1 from h2)
      obtain ⟨args', r, x, e0, e1, e2⟩ := ht
      refine ⟨defer_about hr.fn, ?_⟩
      rw [Oper.semAt_eq F.round a.eval o hd, e2]
      obtain ⟨f, tmps, assign, body, g1, g2⟩ := G.round e0 hH e1 h3
      rw [g1]
      refine ⟨hr.depth, hr.rounds ((g2 (n - 1)).mono ?_)⟩
      rintro e w' ⟨v', rfl, φ', k1, k2, k3⟩
      exact hn _ _ _ _ _ h4 k1 k2 k3
  all_goals
    refine plain ?_
    unfold xWanted at hx
    rw [ho] at hx ⊢
    exact hx

end
end Go.Shadow
namespace Go.Shadow
section
variable {p : Program} {R : Rec} {rd : Option Nat} {ops : Array Oper} {m : Nat} {s : St} {d : Nat → DSt} {v : Nat → AV}

/-! ### A region that draws, its operations run in whatever order -/
def Dn (listed : Array Bool) (i : Nat) : Prop := listed[i]? = some true

theorem dn_set {listed : Array Bool} {i k : Nat} (hi : i < listed.size) : Dn (listed.setIfInBounds i true) k ↔ k = i ∨ Dn listed k := by
  unfold Dn
  rw [Array.getElem?_setIfInBounds]
  by_cases e : i = k
  · subst e; simp [hi]
  · simp [e]; exact fun h => absurd h.symm e

structure Inv (p : Program) (all : List Oper) (befs : List Nat) (m : Nat) (s : St) (d : Nat → DSt) (v : Nat → AV) (φ0 : Phi) (w0 : World) (listed : Array Bool) (t : Nat) (g : Nat → Option ABlk) (φ : Phi) (a : Act) (w : World) : Prop where
  size : listed.size = all.length
  closed : ∀ i k, Dn listed i → (befAt befs i).testBit k = true → Dn listed k
  tOk : t = 0 ∨ ∃ l, t = l + 1 ∧ l ∈ (d all.length).louds
  louds : ∀ l, l ∈ (d all.length).louds → (Dn listed l ↔ l < t)
  hv : HV p φ g (d t).s.hp.n w
  sv : SV φ0 s.hp.get s.hp.n w0 φ g (d t).s.hp.n w
  room : s.hp.n + m ≤ (d t).s.hp.n
  h1 : ∀ b k, (d t).s.hp.get b = some k → (∀ q, q ∈ (d all.length).allocs → ¬ Dn listed q → b ≠ s.hp.n + q) → g b = some k
  h2 : ∀ q, q ∈ (d all.length).allocs → Dn listed q → t ≤ q → ∃ k, Laid p all s.hp.n befs d v q k ∧ g (s.hp.n + q) = some k
  h3 : ∀ q, q ∈ (d all.length).allocs → t ≤ q → (d t).s.hp.get (s.hp.n + q) = none
  h3' : ∀ q, q ∈ (d all.length).allocs → ¬ Dn listed q → ∀ k, (d t).s.hp.get (s.hp.n + q) = some k → Laid p all s.hp.n befs d v q k
  h4 : ∀ q, q ∈ (d all.length).allocs → ¬ Dn listed q → φ (s.hp.n + q) = none
  a1 : ∀ k o tt, Dn listed k → all[k]? = some o → o.dst = some tt → VR φ (v k) (a.tmps.getD tt undef)
  a2 : ∀ tt x, (∀ k o, Dn listed k → all[k]? = some o → o.dst ≠ some tt) → s.tm.get s.td tt = some x → VR φ x (a.tmps.getD tt undef)
  a3 : a.tmps.size = s.n
  df : DefsR φ s.df a.defers

/-- What the executor has looked over, and what the region starts from. -/
structure Setting (p : Program) (R : Rec) (rd : Option Nat) (all : List Oper) (befs : List Nat) (m : Nat) (s : St) (d : Nat → DSt) (v : Nat → AV) : Prop where
  T : Trace p R rd all s.hp.n m befs s d v
  hb : befs = befores all []
  rows : ∀ i o, all[i]? = some o → RowOk befs all i o
  chain : chainOk befs (d all.length).louds.reverse = true
  reads : allReads p s.hp.n befs (d all.length).allocs (d all.length).stages.reverse (d all.length).louds.reverse (d all.length).reads = true
  spare : ∀ q, q ∈ (d all.length).allocs → q < m

section inv
variable {all : List Oper} {befs : List Nat} {φ0 φ : Phi} {w0 w : World} {listed : Array Bool} {t i : Nat} {g : Nat → Option ABlk} {a : Act} {o : Oper}

/-- An operation may come next. -/
structure Next (all : List Oper) (befs : List Nat) (listed : Array Bool) (i : Nat) (o : Oper) : Prop where
  op : all[i]? = some o
  un : ¬ Dn listed i
  bef : ∀ k, (befAt befs i).testBit k = true → Dn listed k

theorem Next.lt (N : Next all befs listed i o) : i < all.length := (List.getElem?_eq_some_iff.1 N.op).1

theorem Inv.tle (S : Setting p R rd all befs m s d v) (I : Inv p all befs m s d v φ0 w0 listed t g φ a w) : t ≤ all.length := by
  rcases I.tOk with rfl | ⟨l, rfl, hl⟩
  · omega
  · have := S.T.lt_of_loud hl; omega

theorem Inv.next_of_ready (S : Setting p R rd ops.toList befs m s d v) (I : Inv p ops.toList befs m s d v φ0 w0 listed t g φ a w) (h : i ∈ Region.ready .any ops listed) : ∃ o, Next ops.toList befs listed i o := by
  obtain ⟨h1, o, h2, h3⟩ := mem_ready.1 h
  have ho : ops.toList[i]? = some o := by simpa using h2
  refine ⟨o, ho, fun hd => ?_, fun k hk => ?_⟩
  · unfold Dn at hd
    rw [Array.getD_eq_getD_getElem?, hd] at h1; cases h1
  · rw [S.hb] at hk
    obtain ⟨e, h4, h5, h6⟩ := (befAt_iff ho).1 hk
    have hdn : Dn listed e.on := by
      have := h3 e (by simpa using h4) h5
      unfold Dn
      rw [Array.getD_eq_getD_getElem?] at this
      cases hl : listed[e.on]? with
      | none => rw [hl] at this; cases this
      | some b => rw [hl] at this; simp at this; rw [this]
    rcases h6 with rfl | ⟨h6, h7⟩
    · exact hdn
    · exact I.closed e.on k hdn (by rw [S.hb]; exact h7)

theorem Inv.evR (S : Setting p R rd all befs m s d v) (I : Inv p all befs m s d v φ0 w0 listed t g φ a w) (N : Next all befs listed i o) {H : Heap} : EvR φ p ((d i).s.heap H) a.eval o.op.operands.toList := by
  have hi := N.lt
  intro x hx u hu
  rw [ev_heap] at hu
  cases x with
  | const c => exact absOf_vr hu
  | global q =>
    obtain ⟨h1, h2⟩ := guardB_some hu
    cases h2
    obtain ⟨y, hy⟩ := I.hv.glob q (ble_le h1)
    exact .ptr 0 hy
  | func f => cases hu; exact .fn (.func f) .nil .nil
  | tmp tt =>
    have hu' : (d i).s.tm.get (d i).s.td tt = some u := by
      have : (d i).s.at tt = some u := hu
      generalize (d i).s = si at this ⊢
      cases si; exact this
    rw [(S.T.frame i (by omega)).1] at hu'
    show VR φ u (a.tmps.getD tt undef)
    rcases S.T.temps i (by omega) hu' with ⟨k, o', h1, h2, h3, rfl⟩ | ⟨h1, h2⟩
    · have hp := ((S.rows i o N.op).pair k o' tt h2 (by omega) h3).2 hx
      rcases hp with hp | hp
      · exact I.a1 k o' tt (N.bef k hp) h2 h3
      · have := (S.rows k o' h2).low i hp; omega
    · refine I.a2 tt u (fun k o' hk ho' hd => ?_) h2
      by_cases e : k = i
      · subst e; exact N.un hk
      · by_cases hlt : k < i
        · exact h1 k o' hlt ho' hd
        · have hp := ((S.rows i o N.op).pair k o' tt ho' (fun h => e h.symm) hd).2 hx
          rcases hp with hp | hp
          · have := (S.rows i o N.op).low k hp; omega
          · exact N.un (I.closed k i hk hp)

theorem Inv.wanted (S : Setting p R rd ops.toList befs m s d v) (I : Inv p ops.toList befs m s d v φ0 w0 listed t g φ a w) (N : Next ops.toList befs listed i o) {b : Bool} (h : wantedA ops.toList (d i).s o = some b) : Region.wanted o (yielded ops a.tmps) = b := by
  have hi := N.lt
  refine wanted_of (s := (d i).s) (φ := φ) (fun j want o' tt u hg h1 h2 h3 => ?_) h
  have hj := (S.rows i o N.op).guard _ hg
  have hjd := N.bef _ hj
  have hlt := (S.rows i o N.op).low _ hj
  have ho' : ops.toList[j]? = some o' := by simpa using h1
  have hu' : (d i).s.tm.get (d i).s.td tt = some u := by
    generalize (d i).s = si at h3 ⊢
    cases si; exact h3
  rw [(S.T.frame i (by omega)).1] at hu'
  rcases S.T.temps i (by omega) hu' with ⟨k, o2, g1, g2, g3, rfl⟩ | ⟨g1, _⟩
  · by_cases e : k = j
    · subst e; exact I.a1 k o2 tt hjd g2 g3
    · exact absurd h2 ((S.rows j o' ho').pair k o2 tt g2 (fun h => e h.symm) g3).1
  · exact absurd h2 (g1 j o' hlt ho')

/-- The temporaries after an operation. -/
theorem Inv.put (S : Setting p R rd all befs m s d v) (I : Inv p all befs m s d v φ0 w0 listed t g φ a w) (N : Next all befs listed i o) {φ' : Phi} {x' : Value} (hle : Phi.le φ φ') (hx : ∀ tt, o.dst = some tt → VR φ' (v i) x') :
    (∀ k o' tt, Dn (listed.setIfInBounds i true) k → all[k]? = some o' → o'.dst = some tt → VR φ' (v k) ((a.put o.dst x').tmps.getD tt undef)) ∧
    (∀ tt x, (∀ k o', Dn (listed.setIfInBounds i true) k → all[k]? = some o' → o'.dst ≠ some tt) → s.tm.get s.td tt = some x → VR φ' x ((a.put o.dst x').tmps.getD tt undef)) ∧
    (a.put o.dst x').tmps.size = s.n ∧ DefsR φ' s.df (a.put o.dst x').defers := by
  have hi := N.lt
  have hsz : i < listed.size := by rw [I.size]; exact hi
  have hpi := (S.T.step i o N.op).2.1
  have hlt : ∀ tt, o.dst = some tt → tt < a.tmps.size := fun tt hd => by
    have h := hpi.tm
    rw [hd] at h
    rw [I.a3, ← (S.T.frame i (by omega)).2.1]; exact h.1
  have same : ∀ tt, o.dst = some tt → (a.put o.dst x').tmps.getD tt undef = x' := fun tt hd => by
    rw [hd]
    simp [Act.put, Array.getD_eq_getD_getElem?, hlt tt hd]
  have other : ∀ tt, o.dst ≠ some tt → (a.put o.dst x').tmps.getD tt undef = a.tmps.getD tt undef := fun tt hd => by
    cases hdd : o.dst with
    | none => rfl
    | some t2 =>
      have hne : t2 ≠ tt := fun h => hd (by rw [hdd, h])
      simp [Act.put, Array.getD_eq_getD_getElem?, Array.getElem?_setIfInBounds_ne hne]
  refine ⟨fun k o' tt hk ho' hd => ?_, fun tt x hk hx' => ?_, ?_, ?_⟩
  · by_cases e : k = i
    · subst e
      rw [N.op] at ho'; cases ho'
      rw [same tt hd]; exact hx tt hd
    · have hk' := ((dn_set hsz).1 hk).resolve_left e
      have hne := ((S.rows i o N.op).pair k o' tt ho' (fun h => e h.symm) hd).1
      rw [other tt hne]
      exact (I.a1 k o' tt hk' ho' hd).mono hle
  · have hne : o.dst ≠ some tt := hk i o ((dn_set hsz).2 (.inl rfl)) N.op
    rw [other tt hne]
    exact (I.a2 tt x (fun k o' h1 h2 => hk k o' ((dn_set hsz).2 (.inr h1)) h2) hx').mono hle
  · cases hdd : o.dst <;> simp [Act.put, I.a3]
  · have : (a.put o.dst x').defers = a.defers := by cases o.dst <;> rfl
    rw [this]; exact I.df.mono hle

theorem Inv.closed' (I : Inv p all befs m s d v φ0 w0 listed t g φ a w) (N : Next all befs listed i o) : ∀ x k, Dn (listed.setIfInBounds i true) x → (befAt befs x).testBit k = true → Dn (listed.setIfInBounds i true) k := by
  have hsz : i < listed.size := by rw [I.size]; exact N.lt
  intro x k hx hk
  rcases (dn_set hsz).1 hx with rfl | hx
  · exact (dn_set hsz).2 (.inr (N.bef k hk))
  · exact (dn_set hsz).2 (.inr (I.closed x k hx hk))

/-- An operation that leaves the heap alone. -/
theorem Inv.quiet (S : Setting p R rd all befs m s d v) (I : Inv p all befs m s d v φ0 w0 listed t g φ a w) (N : Next all befs listed i o) {x' : Value} (ha : i ∉ (d all.length).allocs) (hl : i ∉ (d all.length).louds) (hx : VR φ (v i) x') :
    Inv p all befs m s d v φ0 w0 (listed.setIfInBounds i true) t g φ (a.put o.dst x') w := by
  have hsz : i < listed.size := by rw [I.size]; exact N.lt
  obtain ⟨b1, b2, b3, b4⟩ := I.put S N (Phi.le_refl φ) (fun _ _ => hx)
  have nd : ∀ q, q ∈ (d all.length).allocs → (¬ Dn (listed.setIfInBounds i true) q ↔ ¬ Dn listed q) := fun q hq => by
    rw [dn_set hsz]
    constructor
    · exact fun h h' => h (.inr h')
    · rintro h (rfl | h'); exact ha hq; exact h h'
  exact ⟨by simp [I.size], I.closed' N, I.tOk, fun l hl' => by
      rw [dn_set hsz, ← I.louds l hl']
      exact ⟨fun h => h.resolve_left (fun e => hl (e ▸ hl')), .inr⟩,
    I.hv, I.sv, I.room, fun b k hb hq => I.h1 b k hb (fun q h1 h2 => hq q h1 ((nd q h1).2 h2)),
    fun q h1 h2 h3 => I.h2 q h1 (((dn_set hsz).1 h2).resolve_left (fun e => ha (e ▸ h1))) h3, I.h3, fun q h1 h2 => I.h3' q h1 ((nd q h1).1 h2), fun q h1 h2 => I.h4 q h1 ((nd q h1).1 h2), b1, b2, b3, b4⟩

/-- An operation that lays a block. -/
theorem Inv.lay (S : Setting p R rd all befs m s d v) (I : Inv p all befs m s d v φ0 w0 listed t g φ a w) (N : Next all befs listed i o) {k : ABlk} {x' : Value} {ob : Obj} (ha : i ∈ (d all.length).allocs) (hl : i ∉ (d all.length).louds)
    (hk : Laid p all s.hp.n befs d v i k) (hob : ∀ ψ, Phi.le φ ψ → BR p ψ 0 k ob) (hx : ∀ ψ, ψ (s.hp.n + i) = some (w.heap.size, 0) → VR ψ (v i) x') :
    Inv p all befs m s d v φ0 w0 (listed.setIfInBounds i true) t (fun b => if b = s.hp.n + i then some k else g b) (φ.add (s.hp.n + i) (w.heap.size, 0)) (a.put o.dst x') { w with heap := w.heap.push ob } := by
  have hsz : i < listed.size := by rw [I.size]; exact N.lt
  have hφ := I.h4 i ha N.un
  have hm := S.spare i ha
  have hle : Phi.le φ (φ.add (s.hp.n + i) (w.heap.size, 0)) := Phi.le_add hφ
  obtain ⟨b1, b2, b3, b4⟩ := I.put S N hle (fun _ _ => hx _ Phi.add_same)
  obtain ⟨c1, c2⟩ := newAt (b0 := s.hp.n + i) (k := k) I.hv I.sv (by omega) (by have := I.room; omega) hφ hob
  have nd : ∀ q, ¬ Dn (listed.setIfInBounds i true) q → ¬ Dn listed q ∧ q ≠ i := fun q h => by
    rw [dn_set hsz] at h
    exact ⟨fun h' => h (.inr h'), fun h' => h (.inl h')⟩
  refine ⟨by simp [I.size], I.closed' N, I.tOk, fun l hl' => ?_, c1, c2, I.room, fun b k' hb hq => ?_, fun q h1 h2 h3 => ?_, I.h3, fun q h1 h2 => I.h3' q h1 (nd q h2).1, fun q h1 h2 => ?_, b1, b2, b3, b4⟩
  · rw [dn_set hsz, ← I.louds l hl']
    exact ⟨fun h => h.resolve_left (fun e => hl (e ▸ hl')), .inr⟩
  · by_cases e : b = s.hp.n + i
    · subst e
      have := (I.h3' i ha N.un k' hb).unique hk
      simp [this]
    · simp only [e, if_false]
      refine I.h1 b k' hb (fun q h1 h2 => ?_)
      by_cases eq : q = i
      · subst eq; exact e
      · exact hq q h1 (fun h => by rcases (dn_set hsz).1 h with h | h; exact eq h; exact h2 h)
  · by_cases e : q = i
    · subst e; exact ⟨k, hk, by simp⟩
    · obtain ⟨k', g1, g2⟩ := I.h2 q h1 (((dn_set hsz).1 h2).resolve_left e) h3
      refine ⟨k', g1, ?_⟩
      have : s.hp.n + q ≠ s.hp.n + i := by omega
      simp only [this, if_false]; exact g2
  · obtain ⟨h3, h4⟩ := nd q h2
    rw [Phi.add_ne (by omega)]
    exact I.h4 q h1 h3

/-- What a loud operation sees is a part of the heap. -/
theorem Inv.sees (S : Setting p R rd all befs m s d v) (I : Inv p all befs m s d v φ0 w0 listed t g φ a w) (N : Next all befs listed i o) (ht : t ≤ i) (hno : ∀ l, l ∈ (d all.length).louds → t ≤ l → l < i → False) :
    (∀ b k, (d i).s.hp.get b = some k → (∀ q, q ∈ (d all.length).allocs → q < i → ¬ Dn listed q → b ≠ s.hp.n + q) → g b = some k) ∧ (d i).s.hp.n = (d t).s.hp.n ∧
    (∀ q, q ∈ (d all.length).allocs → i ≤ q → (d i).s.hp.get (s.hp.n + q) = none) := by
  have hi := N.lt
  obtain ⟨e1, e2⟩ := S.T.between (t := t) (i - t) (by omega) (fun l h1 h2 h3 => hno l h1 h2 (by omega))
  rw [show t + (i - t) = i by omega] at e1 e2
  refine ⟨fun b k hb hq => ?_, e1, fun q hq hqi => ?_⟩
  · by_cases hx : ∃ x, x ∈ (d all.length).allocs ∧ t ≤ x ∧ x < i ∧ b = s.hp.n + x
    · obtain ⟨x, h1, h2, h3, rfl⟩ := hx
      have hxd : Dn listed x := Classical.byContradiction fun h => hq x h1 h3 h rfl
      obtain ⟨k', g1, g2⟩ := I.h2 x h1 hxd h2
      obtain ⟨f1, f2⟩ := S.T.between (t := x + 1) (i - (x + 1)) (by omega) (fun l g1 g2 g3 => hno l g1 (by omega) (by omega))
      rw [show x + 1 + (i - (x + 1)) = i by omega] at f1 f2
      have := f2 _ k hb (fun y _ h5 h6 => by omega)
      obtain ⟨k2, k3, k4⟩ := S.T.laid h1
      have e : k = k' := by rw [k4 k this]; exact k3.unique g1
      rw [e]; exact g2
    · have hne : ∀ x, x ∈ (d all.length).allocs → t ≤ x → x < i → b ≠ s.hp.n + x := fun x h1 h2 h3 h4 => hx ⟨x, h1, h2, h3, h4⟩
      have hbt := e2 b k hb hne
      refine I.h1 b k hbt (fun q h1 h2 hbq => ?_)
      by_cases hqi : q < i
      · exact hq q h1 hqi h2 hbq
      · subst hbq
        rw [I.h3 q h1 (by omega)] at hbt; cases hbt
  · cases hg : (d i).s.hp.get (s.hp.n + q) with
    | none => rfl
    | some k =>
      have := e2 _ k hg (fun x _ h2 h3 => by omega)
      rw [I.h3 q hq (by omega)] at this; cases this

end inv
end
end Go.Shadow
namespace Go.Shadow
section
variable {p : Program} {R : Rec} {rd : Option Nat} {all : List Oper} {m : Nat} {s : St} {d : Nat → DSt} {v : Nat → AV}
variable {befs : List Nat} {φ0 φ : Phi} {w0 w : World} {listed : Array Bool} {t i : Nat} {g : Nat → Option ABlk} {a : Act} {o : Oper}

theorem Inv.first (S : Setting p R rd all befs m s d v) (I : Inv p all befs m s d v φ0 w0 listed t g φ a w) (N : Next all befs listed i o) (hl : i ∈ (d all.length).louds) : t ≤ i ∧ ∀ l, l ∈ (d all.length).louds → t ≤ l → l < i → False := by
  constructor
  · apply Classical.byContradiction
    intro h
    exact N.un ((I.louds i hl).2 (by omega))
  · have : ∀ c l, i - l ≤ c → l ∈ (d all.length).louds → t ≤ l → l < i → False := by
      intro c
      induction c with
      | zero => intro l h1 _ _ h4; omega
      | succ c ih =>
        intro l h1 h2 h3 h4
        by_cases hx : ∃ l', l' ∈ (d all.length).louds ∧ l < l' ∧ l' < i
        · obtain ⟨l', g1, g2, g3⟩ := hx
          exact ih l' (by omega) g1 (by omega) g3
        · have hb := S.T.chain S.chain h2 hl h4 (fun l' g1 g2 g3 => hx ⟨l', g1, g2, g3⟩)
          have := (I.louds l h2).1 (N.bef l hb)
          omega
    exact fun l h1 h2 h3 => this (i - l) l (Nat.le_refl _) h1 h2 h3

def Hid (befs : List Nat) (d : Nat → DSt) (N n0 i b : Nat) : Prop := ∃ q, q ∈ (d N).allocs ∧ (befAt befs i).testBit q = false ∧ b = n0 + q
open Classical in
noncomputable def joined (befs : List Nat) (d : Nat → DSt) (N n0 i : Nat) (g : Nat → Option ABlk) (H : Heap) (b : Nat) : Option ABlk :=
  if Hid befs d N n0 i b ∧ g b ≠ none then g b else H.get b

/-- After a loud operation. -/
theorem Inv.loud (S : Setting p R rd all befs m s d v) (I : Inv p all befs m s d v φ0 w0 listed t g φ a w) (N : Next all befs listed i o) (hl : i ∈ (d all.length).louds) (hal : i ∉ (d all.length).allocs) {φ' : Phi} {H' : Heap} {x' : Value} {w' : World}
    (hh : (d (i + 1)).s.hp = reviveAll (d i).s.hp (awayAt s.hp.n befs (d i)) H') (hx : ∀ tt, o.dst = some tt → VR φ' (v i) x') (h' : HR p φ' H' w') (st : Step φ (sAt s.hp.n befs (d i)).hp w φ' H' w') :
    Inv p all befs m s d v φ0 w0 (listed.setIfInBounds i true) (i + 1) (joined befs d all.length s.hp.n i g H') φ' (a.put o.dst x') w' := by
  have hi := N.lt
  have hsz : i < listed.size := by rw [I.size]; exact N.lt
  obtain ⟨hti, hno⟩ := I.first S N hl
  obtain ⟨s1, s2, s3⟩ := I.sees S N hti hno
  have hn1 : (sAt s.hp.n befs (d i)).hp.n = (d t).s.hp.n := by unfold sAt; rw [hp_heap, eraseAll_n, s2]
  have hget0 : ∀ {b k}, (sAt s.hp.n befs (d i)).hp.get b = some k → b ∉ awayAt s.hp.n befs (d i) ∧ (d i).s.hp.get b = some k := fun h => by
    unfold sAt at h; rw [hp_heap] at h; exact eraseAll_get _ _ h
  have hsub : ∀ b k, (sAt s.hp.n befs (d i)).hp.get b = some k → g b = some k := fun b k hb => by
    obtain ⟨h1, h2⟩ := hget0 hb
    refine s1 b k h2 (fun q hq hqi hnd hbq => h1 ?_)
    refine (S.T.mem_away (by omega)).2 ⟨q, hqi, hq, ?_, hbq⟩
    cases hbf : (befAt befs i).testBit q with
    | false => rfl
    | true => exact absurd (N.bef q hbf) hnd
  have hhid : ∀ q, q ∈ (d all.length).allocs → (befAt befs i).testBit q = false → (sAt s.hp.n befs (d i)).hp.get (s.hp.n + q) = none := fun q hq hbf => by
    cases hg : (sAt s.hp.n befs (d i)).hp.get (s.hp.n + q) with
    | none => rfl
    | some k =>
      obtain ⟨h1, h2⟩ := hget0 hg
      by_cases hqi : q < i
      · exact absurd ((S.T.mem_away (by omega)).2 ⟨q, hqi, hq, hbf, rfl⟩) h1
      · rw [s3 q hq (by omega)] at h2; cases h2
  have K : ∀ q, q ∈ (d all.length).allocs → (befAt befs i).testBit q = false → g (s.hp.n + q) ≠ none → H'.get (s.hp.n + q) = none := fun q hq hbf hg => by
    cases hk : H'.get (s.hp.n + q) with
    | none => rfl
    | some k =>
      exfalso
      cases hg2 : g (s.hp.n + q) with
      | none => exact hg hg2
      | some k2 =>
        obtain ⟨r, x, ob, e1, _, _⟩ := I.hv.live _ _ hg2
        have e2 := st.le _ _ e1
        rcases st.own _ k r x hk e2 with hge | ⟨b0, k0, x0, f1, f2, _⟩
        · have := (I.hv.dom _ _ _ e1).2; omega
        · have := I.hv.inj b0 _ k0 k2 r x0 x (hsub _ _ f1) hg2 f2 e1
          subst this
          rw [hhid q hq hbf] at f1; cases f1
  have fr : ∀ q, q ∈ (d all.length).allocs → ¬ Dn listed q → φ' (s.hp.n + q) = none := fun q hq hnd => by
    cases e : φ' (s.hp.n + q) with
    | none => rfl
    | some x =>
      rcases st.fresh _ _ e with h1 | h1
      · rw [I.h4 q hq hnd] at h1; cases h1
      · have h2 := S.spare q hq
        have h3 := I.room
        rw [hn1] at h1; omega
  have K2 : ∀ q, q ∈ (d all.length).allocs → ¬ Dn listed q → H'.get (s.hp.n + q) = none := fun q hq hnd => by
    cases hk : H'.get (s.hp.n + q) with
    | none => rfl
    | some k =>
      obtain ⟨r, x, ob, e1, _, _⟩ := h'.live _ _ hk
      rw [fr q hq hnd] at e1; cases e1
  have hgj : ∀ b k, joined befs d all.length s.hp.n i g H' b = some k → H'.get b = some k ∨ ((sAt s.hp.n befs (d i)).hp.get b = none ∧ g b = some k) := fun b k hb => by
    unfold joined at hb
    split at hb
    · rename_i hc
      obtain ⟨⟨q, h1, h2, rfl⟩, _⟩ := hc
      exact .inr ⟨hhid q h1 h2, hb⟩
    · exact .inl hb
  obtain ⟨c1, c2⟩ := frame_sound I.hv hsub hn1 h' st hgj
  have hn' : (d (i + 1)).s.hp.n = H'.n := by rw [hh, reviveAll_n]
  obtain ⟨b1, b2, b3, b4⟩ := I.put S N st.le hx
  have nd : ∀ q, ¬ Dn (listed.setIfInBounds i true) q → ¬ Dn listed q := fun q h h' => h ((dn_set hsz).2 (.inr h'))
  have nd' : ∀ q, q ∈ (d all.length).allocs → ¬ Dn listed q → ¬ Dn (listed.setIfInBounds i true) q := fun q hq h h' => by
    rcases (dn_set hsz).1 h' with rfl | h'
    · exact hal hq
    · exact h h'
  have hjoin : ∀ q k, q ∈ (d all.length).allocs → (befAt befs i).testBit q = false → g (s.hp.n + q) = some k → joined befs d all.length s.hp.n i g H' (s.hp.n + q) = some k := fun q k hq hbf hg => by
    unfold joined
    rw [if_pos ⟨⟨q, hq, hbf, rfl⟩, by rw [hg]; simp⟩]; exact hg
  have hlow : ∀ q, i ≤ q → (befAt befs i).testBit q = false := fun q hq => by
    cases hbf : (befAt befs i).testBit q with
    | false => rfl
    | true => have := (S.rows i o N.op).low q hbf; omega
  refine ⟨by simp [I.size], I.closed' N, .inr ⟨i, rfl, hl⟩, fun l hl' => ?_, by rw [hn']; exact c1, by rw [hn']; exact I.sv.trans c2, by rw [hn']; have := st.n; rw [hn1] at this; have := I.room; omega,
    fun b k hb hq => ?_, fun q h1 h2 h3 => ?_, fun q h1 h2 => ?_, fun q h1 h2 k hk => ?_, fun q h1 h2 => fr q h1 (nd q h2), b1, b2, b3, b4⟩
  · rw [dn_set hsz, I.louds l hl']
    constructor
    · rintro (rfl | h) <;> omega
    · intro h
      by_cases e : l = i
      · exact .inl e
      · refine .inr ?_
        apply Classical.byContradiction
        intro h'
        exact hno l hl' (by omega) (by omega)
  · rw [hh] at hb
    rcases reviveAll_get _ _ _ hb with ⟨g1, g2⟩ | g1
    · obtain ⟨q, f1, f2, f3, rfl⟩ := (S.T.mem_away (by omega)).1 g1
      have hd : Dn listed q := Classical.byContradiction fun h => hq q f2 (nd' q f2 h) rfl
      refine hjoin q k f2 f3 (s1 _ k g2 (fun q' e1 e2 e3 e4 => ?_))
      have : q = q' := by omega
      subst this
      exact e3 hd
    · unfold joined
      split
      · rename_i hc
        obtain ⟨⟨q, f1, f2, rfl⟩, f3⟩ := hc
        rw [K q f1 f2 f3] at g1; cases g1
      · exact g1
  · have hd : Dn listed q := ((dn_set hsz).1 h2).resolve_left (by omega)
    obtain ⟨k, g1, g2⟩ := I.h2 q h1 hd (by omega)
    exact ⟨k, g1, hjoin q k h1 (hlow q (by omega)) g2⟩
  · rw [hh]
    cases hk : (reviveAll (d i).s.hp (awayAt s.hp.n befs (d i)) H').get (s.hp.n + q) with
    | none => rfl
    | some k =>
      exfalso
      rcases reviveAll_get _ _ _ hk with ⟨g1, g2⟩ | g1
      · obtain ⟨q', f1, f2, f3, f4⟩ := (S.T.mem_away (by omega)).1 g1
        omega
      · by_cases hd : Dn listed q
        · obtain ⟨k2, f1, f2⟩ := I.h2 q h1 hd (by omega)
          rw [K q h1 (hlow q (by omega)) (by rw [f2]; simp)] at g1; cases g1
        · rw [K2 q h1 hd] at g1; cases g1
  · rw [hh] at hk
    rcases reviveAll_get _ _ _ hk with ⟨g1, g2⟩ | g1
    · obtain ⟨q', f1, f2, f3, f4⟩ := (S.T.mem_away (by omega)).1 g1
      have : q = q' := by omega
      subst this
      by_cases hqt : t ≤ q
      · obtain ⟨_, e2⟩ := S.T.between (t := q + 1) (i - (q + 1)) (by omega) (fun l g1 g2 g3 => hno l g1 (by omega) (by omega))
        rw [show q + 1 + (i - (q + 1)) = i by omega] at e2
        have := e2 _ k g2 (fun y _ h5 h6 => by omega)
        obtain ⟨k2, k3, k4⟩ := S.T.laid f2
        rw [k4 k this]; exact k3
      · obtain ⟨_, e2⟩ := S.T.between (t := t) (i - t) (by omega) (fun l g1 g2 g3 => hno l g1 g2 (by omega))
        rw [show t + (i - t) = i by omega] at e2
        have := e2 _ k g2 (fun y _ h5 h6 => by omega)
        exact I.h3' q f2 (nd q h2) k this
    · rw [K2 q h1 (nd q h2)] at g1; cases g1

/-- All are through: the frame at the region's end. -/
theorem Inv.done (S : Setting p R rd all befs m s d v) (I : Inv p all befs m s d v φ0 w0 listed t g φ a w) (hall : ∀ i, i < all.length → Dn listed i) :
    SR p φ (d all.length).s a w ∧ Step φ0 s.hp w0 φ (d all.length).s.hp w := by
  have htl := I.tle S
  have hno : ∀ l, l ∈ (d all.length).louds → t ≤ l → l < all.length → False := fun l h1 h2 h3 => by
    have := (I.louds l h1).1 (hall l h3); omega
  obtain ⟨e1, e2⟩ := S.T.between (t := t) (all.length - t) (by omega) (fun l h1 h2 h3 => hno l h1 h2 (by omega))
  rw [show t + (all.length - t) = all.length by omega] at e1 e2
  have hsub : ∀ b k, (d all.length).s.hp.get b = some k → g b = some k := fun b k hb => by
    by_cases hx : ∃ x, x ∈ (d all.length).allocs ∧ t ≤ x ∧ b = s.hp.n + x
    · obtain ⟨x, h1, h2, rfl⟩ := hx
      have hxl := S.T.lt_of_alloc h1
      obtain ⟨k', g1, g2⟩ := I.h2 x h1 (hall x hxl) h2
      obtain ⟨f1, f2⟩ := S.T.between (t := x + 1) (all.length - (x + 1)) (by omega) (fun l g1 g2 g3 => hno l g1 (by omega) (by omega))
      rw [show x + 1 + (all.length - (x + 1)) = all.length by omega] at f1 f2
      have := f2 _ k hb (fun y _ h5 h6 => by omega)
      obtain ⟨k2, k3, k4⟩ := S.T.laid h1
      have e : k = k' := by rw [k4 k this]; exact k3.unique g1
      rw [e]; exact g2
    · have hbt := e2 b k hb (fun x h1 h2 h3 h4 => hx ⟨x, h1, h2, h4⟩)
      exact I.h1 b k hbt (fun q h1 h2 => absurd (hall q (S.T.lt_of_alloc h1)) h2)
  obtain ⟨f1, f2, f3⟩ := S.T.frame all.length (Nat.le_refl _)
  refine ⟨⟨⟨by rw [f2]; exact I.a3, fun tt x hx => ?_⟩, I.hv.hr hsub e1, by rw [f3]; exact I.df⟩, I.sv.step hsub e1⟩
  rw [f1] at hx
  rcases S.T.temps all.length (Nat.le_refl _) hx with ⟨k, o, h1, h2, h3, rfl⟩ | ⟨h1, h2⟩
  · exact I.a1 k o tt (hall k h1) h2 h3
  · exact I.a2 tt x (fun k o _ ho => h1 k o (List.getElem?_eq_some_iff.1 ho).1 ho) h2

end
end Go.Shadow
namespace Go.Shadow
section
variable {p : Program} {R : Rec} {rd : Option Nat} {ops : Array Oper} {m : Nat} {s : St} {d : Nat → DSt} {v : Nat → AV}
variable {befs : List Nat} {φ0 φ : Phi} {w0 w : World} {listed : Array Bool} {t i : Nat} {g : Nat → Option ABlk} {a : Act} {o : Oper} {F : Fence} {n : Nat}

theorem noneWants_of {i : Nat} : ∀ {l : List Nat}, (∀ k, k ∈ l → (befAt befs k).testBit i = false) → noneWants befs i l = true
  | [], _ => rfl
  | k :: l, h => by
    show (!(befAt befs k).testBit i && noneWants befs i l) = true
    rw [h k (by simp), noneWants_of (fun k hk => h k (by simp [hk]))]; rfl
theorem wantsNone_of {b : Nat} : ∀ {l : List Nat}, (∀ k, k ∈ l → b.testBit k = false) → wantsNone b l = true
  | [], _ => rfl
  | k :: l, h => by
    show (!b.testBit k && wantsNone b l) = true
    rw [h k (by simp), wantsNone_of (fun k hk => h k (by simp [hk]))]; rfl
theorem sameAs_some {v : AV} {x : Option ORes} (h : sameAs v x = true) : x = some (.v v) := by
  unfold sameAs at h
  split at h
  · rw [avEq_eq _ _ h]
  · cases h

/-- A read gives the same wherever it may stand. -/
theorem Inv.read {all : List Oper} (S : Setting p R rd all befs m s d v) (I : Inv p all befs m s d v φ0 w0 listed t g φ a w) (N : Next all befs listed i o)
    (hr : (d (i + 1)).reads = ⟨(d i).i, o.op, sAt s.hp.n befs (d i), v i⟩ :: (d i).reads) :
    ∃ H, xOp p ((d i).s.heap H) o.op = some (.v (v i)) ∧ HR p φ H w := by
  have hi := N.lt
  have hm := S.T.read_mem hi hr
  have hst := allReads_mem S.reads hm
  have htN := I.tle S
  have ht' : t = 0 ∨ ∃ l, t = l + 1 ∧ l ∈ (d all.length).louds := I.tOk
  obtain ⟨S1, S2, L1, L2, e1, e2, e3, e4, e5, e6⟩ := S.T.stages all.length (Nat.le_refl _) t ht'
  rw [e1, e2] at hst
  have h1 := stagesOk_at L1 S1 [] (d t).s.hp S2 L2 e3 e4 hst
  have hmem : ∀ l, l ∈ L1 ++ L2 → l ∈ (d all.length).louds := fun l hl => by rw [← e2] at hl; simpa using hl
  have hidx := S.T.idx i (by omega)
  rw [hidx] at h1
  have g1 : noneWants befs i (L1.reverse ++ []) = true := noneWants_of (fun k hk => by
    have hk' : k ∈ L1 := by simpa using hk
    cases hb : (befAt befs k).testBit i with
    | false => rfl
    | true =>
      have hd := (I.louds k (hmem k (by simp [hk']))).2 (e5 k hk')
      exact absurd (I.closed k i hd hb) N.un)
  have g2 : wantsNone (befAt befs i) L2 = true := wantsNone_of (fun k hk => by
    cases hb : (befAt befs i).testBit k with
    | false => rfl
    | true =>
      have := (I.louds k (hmem k (by simp [hk]))).1 (N.bef k hb)
      have := e6 k hk
      omega)
  unfold stageOk at h1
  simp only [g1, g2, Bool.and_self] at h1
  have h2 := sameAs_some h1
  refine ⟨eraseAll (notBefore s.hp.n (befAt befs i) (d all.length).allocs) (d t).s.hp, ?_, ?_⟩
  · have e : (sAt s.hp.n befs (d i)).heap (eraseAll (notBefore s.hp.n (befAt befs i) (d all.length).allocs) (d t).s.hp) = (d i).s.heap (eraseAll (notBefore s.hp.n (befAt befs i) (d all.length).allocs) (d t).s.hp) := by
      unfold sAt
      generalize (d i).s = si
      cases si; rfl
    rw [← e]; exact h2
  · refine I.hv.hr (fun b k hb => ?_) (eraseAll_n _ _)
    obtain ⟨f1, f2⟩ := eraseAll_get _ _ hb
    refine I.h1 b k f2 (fun q hq hnd hbq => f1 (mem_notBefore.2 ⟨q, hq, ?_, hbq⟩))
    cases hbf : (befAt befs i).testBit q with
    | false => rfl
    | true => exact absurd (N.bef q hbf) hnd

theorem heap_heap {s : St} {H K : Heap} : (s.heap H).heap K = s.heap K := by cases s; rfl

/-- One operation, wherever it stands. -/
theorem Inv.op (G : Good p R) (S : Setting p R rd ops.toList befs m s d v) (I : Inv p ops.toList befs m s d v φ0 w0 listed t g φ a w) (N : Next ops.toList befs listed i o) (hr : RdF φ rd F) {K : Act → World → Prop} {Q : Exit → Act → World → Prop}
    (hK : ∀ t' g' φ' a' w', Inv p ops.toList befs m s d v φ0 w0 (listed.setIfInBounds i true) t' g' φ' a' w' → RdF φ' rd F → K a' w') : wpOpIn F n p ops Q i K a w := by
  have hi := N.lt
  have ho : ops[i]? = some o := by simpa using N.op
  obtain ⟨hst, hput, hidx⟩ := S.T.step i o N.op
  have hI := S.T.idx i (by omega)
  have hev := fun (H : Heap) => I.evR S N (H := H)
  unfold wpOpIn
  rw [ho]
  simp only
  generalize hvi : v i = vi at hst hput
  cases hst with
  | skip hw hs hrd =>
    rw [I.wanted S N hw, if_neg (by simp)]
    refine ⟨defer_about hr.fn, ?_⟩
    exact hK _ _ _ _ _ (I.quiet S N (S.T.not_alloc hi hs.allocs) (S.T.not_loud hi hs.louds) (by rw [hvi]; exact vr_undef)) hr
  | calm hw hc hx hs hrd =>
    rw [I.wanted S N hw, if_pos rfl]
    obtain ⟨v1, h1, v', h2, h3⟩ := xOp_calm (s := sAt s.hp.n befs (d i)) (ρ := a.eval) (φ := φ) hc (hev _) hx
    cases h1
    refine ⟨defer_about hr.fn, ?_⟩
    rw [Oper.semAt_eq F.round a.eval o (fun c hd => by rw [hd] at hc; cases hc), h2 w]
    exact hK _ _ _ _ _ (I.quiet S N (S.T.not_alloc hi hs.allocs) (S.T.not_loud hi hs.louds) (by rw [hvi]; exact h3)) hr
  | reads hw hc hs hrd =>
    rw [I.wanted S N hw, if_pos rfl]
    rw [← hvi] at hrd
    obtain ⟨H, h1, h2⟩ := I.read S N hrd
    obtain ⟨v1, h3, v', h4, h5⟩ := xOp_reads (s := (d i).s.heap H) (ρ := a.eval) (φ := φ) (w := w) hc (by rw [hp_heap]; exact h2) (hev _) h1
    cases h3
    refine ⟨defer_about hr.fn, ?_⟩
    rw [Oper.semAt_eq F.round a.eval o (fun c hd => by rw [hd] at hc; cases hc), h4]
    exact hK _ _ _ _ _ (I.quiet S N (S.T.not_alloc hi hs.allocs) (S.T.not_loud hi hs.louds) h5) hr
  | @allocs x h0 hw hc hx hh hal hl hs hrd =>
    rw [I.wanted S N hw, if_pos rfl]
    have hia := S.T.is_alloc hi hal
    obtain ⟨mkA, k, e1, e2, mkV, ob, e3, e4, e5⟩ := xOp_allocs (s := (sAt s.hp.n befs (d i)).heap ((sAt s.hp.n befs (d i)).hp.from (s.hp.n + (d i).i))) (ρ := a.eval) (φ := φ) hc (by unfold sAt; rw [heap_heap]; exact hev _) hx
    rw [hp_heap] at e2
    simp only [ORes.vh.injEq] at e2
    obtain ⟨e6, e7⟩ := e2
    have hlaid : Laid p ops.toList s.hp.n befs d v i k := by
      refine ⟨o, N.op, ?_⟩
      have e8 : (sAt s.hp.n befs (d i)).heap (layAt s.hp.n befs (d i)) = (sAt s.hp.n befs (d i)).heap ((sAt s.hp.n befs (d i)).hp.from (s.hp.n + (d i).i)) := rfl
      rw [e8, hx, hvi]
      rw [e7]; rfl
    refine ⟨defer_about hr.fn, ?_⟩
    rw [Oper.semAt_eq F.round a.eval o (fun c hd => by rw [hd] at hc; cases hc), e3 w]
    have := I.lay S N (x' := mkV w.heap.size) hia (S.T.not_loud hi hl) hlaid e4 (fun ψ hψ => by
      rw [hvi, e6, Heap.n_from, hI]; exact e5 ψ _ _ hψ)
    exact hK _ _ _ _ _ this (hr.mono (Phi.le_add (I.h4 i hia N.un)))
  | @loud x H' s1 hw hc hx hv hh hal hl hs hrd =>
    rw [I.wanted S N hw, if_pos rfl]
    have hil := S.T.is_loud hi hl
    obtain ⟨hti, hno⟩ := I.first S N hil
    obtain ⟨q1, q2, q3⟩ := I.sees S N hti hno
    have hH : HR p φ (sAt s.hp.n befs (d i)).hp w := by
      refine I.hv.hr (fun b k hb => ?_) (by unfold sAt; rw [hp_heap, eraseAll_n, q2])
      unfold sAt at hb
      rw [hp_heap] at hb
      obtain ⟨h1, h2⟩ := eraseAll_get _ _ hb
      refine q1 b k h2 (fun q hq hqi hnd hbq => h1 ((S.T.mem_away (by omega)).2 ⟨q, hqi, hq, ?_, hbq⟩))
      cases hbf : (befAt befs i).testBit q with
      | false => rfl
      | true => exact absurd (N.bef q hbf) hnd
    refine xWanted_does G hr hH (hev _) (fun c hd => by rw [hd] at hc; cases hc) hx ?_
    intro φ' v1 H1 v' w' g1 g2 g3 g4
    have hH1 : H1 = H' := by rw [← (putH_is g1).2, ← (putH_is hv).2]
    subst hH1
    refine hK _ _ _ _ _ (I.loud S N hil (S.T.not_alloc hi hal) hh (fun tt hd => ?_) g3 g4) (hr.mono g4.le)
    have t1 := (putH_is g1).1.tm
    have t2 := (putH_is hv).1.tm
    rw [hd] at t1 t2
    have t3 := t1.2.symm.trans t2.2
    have : v1 = vi := by
      have u1 := get_put_same (d := (sAt s.hp.n befs (d i)).td) (t := (sAt s.hp.n befs (d i)).tm) (i := tt) (a := some v1)
      rw [t3, get_put_same] at u1
      cases u1; rfl
    rw [hvi, ← this]; exact g2

theorem count_pos {l : List Bool} {i : Nat} (h : l[i]? = some false) : 0 < l.count false := by
  rw [List.count_pos_iff]
  exact List.mem_of_getElem? h

theorem all_done (S : Setting p R rd ops.toList befs m s d v) (I : Inv p ops.toList befs m s d v φ0 w0 listed t g φ a w) (h : Region.ready .any ops listed = []) : ∀ i, i < ops.toList.length → Dn listed i := by
  intro i
  induction i using Nat.strongRecOn with
  | ind i ih =>
    intro hi
    apply Classical.byContradiction
    intro hnd
    obtain ⟨o, ho⟩ := op_at (all := ops.toList) hi
    have : i ∈ Region.ready .any ops listed := by
      refine mem_ready.2 ⟨?_, o, by simpa using ho, fun e he hb => ?_⟩
      · have hsz : i < listed.size := by rw [I.size]; exact hi
        rw [Array.getD_eq_getD_getElem?]
        cases hl : listed[i]? with
        | none => rw [Array.getElem?_eq_none_iff] at hl; omega
        | some b =>
          cases b with
          | false => rfl
          | true => exact absurd hl hnd
      · have hbit : (befAt befs i).testBit e.on = true := by
          rw [S.hb]
          exact (befAt_iff ho).2 ⟨e, by simpa using he, hb, .inl rfl⟩
        have hlt := (S.rows i o ho).low _ hbit
        have hd := ih e.on hlt (by omega)
        unfold Dn at hd
        rw [Array.getD_eq_getD_getElem?, hd]; rfl
    rw [h] at this; cases this

theorem any_sound (G : Good p R) (S : Setting p R rd ops.toList befs m s d v) {Q : Exit → Act → World → Prop}
    (hQ : ∀ φ' a' w', SR p φ' (d ops.toList.length).s a' w' → Step φ0 s.hp w0 φ' (d ops.toList.length).s.hp w' → Q .normal a' w') : ∀ (fuel : Nat) {listed : Array Bool} {t : Nat} {g : Nat → Option ABlk} {φ : Phi} {a : Act} {w : World},
    Inv p ops.toList befs m s d v φ0 w0 listed t g φ a w → RdF φ rd F → listed.toList.count false ≤ fuel → wpAnyIn F n p .any ops Q fuel listed a w
  | 0, listed, t, g, φ, a, w, I, hr, hc => by
    have hnil : Region.ready .any ops listed = [] := by
      cases hx : Region.ready .any ops listed with
      | nil => rfl
      | cons i l =>
        exfalso
        have hi : i ∈ Region.ready .any ops listed := by rw [hx]; simp
        have h1 := (mem_ready.1 hi).1
        have : listed.toList[i]? = some false := by
          rw [Array.getD_eq_getD_getElem?] at h1
          cases hl : listed[i]? with
          | none => rw [hl] at h1; cases h1
          | some b => rw [hl] at h1; simp at h1; subst h1; simpa using hl
        have := count_pos this
        omega
    obtain ⟨h1, h2⟩ := I.done S (all_done S I hnil)
    exact ⟨hnil, hQ _ _ _ h1 h2⟩
  | fuel + 1, listed, t, g, φ, a, w, I, hr, hc => by
    refine ⟨fun hnil => ?_, fun i hi => ?_⟩
    · obtain ⟨h1, h2⟩ := I.done S (all_done S I hnil)
      exact hQ _ _ _ h1 h2
    · obtain ⟨o, N⟩ := I.next_of_ready S hi
      refine I.op G S N hr (fun t' g' φ' a' w' I' hr' => any_sound G S hQ fuel I' hr' ?_)
      have hsz : i < listed.toList.length := by rw [Array.length_toList, I.size]; exact N.lt
      have hf : listed.toList[i] = false := by
        have h0 : ¬ Dn listed i := N.un
        unfold Dn at h0
        cases hb : listed.toList[i] with
        | false => rfl
        | true =>
          exfalso; apply h0
          rw [← Array.getElem?_toList, List.getElem?_eq_getElem hsz, hb]
      have hpos : 0 < listed.toList.count false := count_pos (i := i) (by rw [List.getElem?_eq_getElem hsz, hf])
      have he : (listed.toList.set i true).count false = listed.toList.count false - 1 := by rw [List.count_set hsz, hf]; rfl
      rw [Array.toList_setIfInBounds, he]
      omega

end
end Go.Shadow
namespace Go.Shadow
section
variable {p : Program} {R : Rec} {φ : Phi} {s : St}

theorem dEnd_some {n0 : Nat} {befs : List Nat} {d : DSt} {s' : St} (h : dEnd p n0 befs d = some s') : chainOk befs d.louds.reverse = true ∧ allReads p n0 befs d.allocs d.stages.reverse d.louds.reverse d.reads = true ∧ s' = d.s := by
  obtain ⟨h1, h2⟩ := guardB_some h
  simp only [Bool.and_eq_true] at h1
  cases h2
  exact ⟨h1.1, h1.2, rfl⟩

theorem spare_of {ops : List Oper} {q : Nat} {o : Oper} (ho : ops[q]? = some o) (hc : cls p o.op = .allocs) : q < spare p ops := by
  have : (ops.any fun o => isAllocs (cls p o.op)) = true := List.any_eq_true.2 ⟨o, List.mem_of_getElem? ho, by rw [hc]; rfl⟩
  unfold spare
  rw [this]
  exact (List.getElem?_eq_some_iff.1 ho).1

/-- A region that draws. -/
theorem drawn_sound (hm : p.follows .mixedOrders = true) (G : Good p R) {rd : Option Nat} {F : Fence} {n id : Nat} {ops : Array Oper} {s' : St} {a : Act} {w : World} (hr : RdF φ rd F) (h : SR p φ s a w)
    (hx : xDrawn p R rd ops.toList (befores ops.toList []) s = some s') : (Code.region id ops true).wpIn F n p (Post φ p s.hp w .normal s') a w := by
  obtain ⟨h1, h2⟩ := guardB_some hx
  obtain ⟨d, v, T, h3⟩ := trace_of h2
  obtain ⟨h4, h5, rfl⟩ := dEnd_some h3
  have hrows : ∀ i o, ops.toList[i]? = some o → RowOk (befores ops.toList []) ops.toList i o := fun i o ho => by
    have := rowsOk_at ops.toList 0 i o h1 ho
    rwa [Nat.zero_add] at this
  have hsp : ∀ q, q ∈ (d ops.toList.length).allocs → q < spare p ops.toList := fun q hq => by
    have hlt := T.lt_of_alloc hq
    obtain ⟨o, ho⟩ := op_at (all := ops.toList) hlt
    have hst := (T.step q o ho).1
    generalize v q = vq at hst
    cases hst with
    | skip hw hs hrd => exact absurd hq (T.not_alloc hlt hs.allocs)
    | calm hw hc hx hs hrd => exact absurd hq (T.not_alloc hlt hs.allocs)
    | reads hw hc hs hrd => exact absurd hq (T.not_alloc hlt hs.allocs)
    | loud hw hc hx hv hh ha hl hs hrd => exact absurd hq (T.not_alloc hlt ha)
    | allocs hw hc hx hh ha hl hs hrd => exact spare_of ho hc
  have S : Setting p R rd ops.toList (befores ops.toList []) (spare p ops.toList) s d v := ⟨T, rfl, hrows, h4, h5, hsp⟩
  have nodn : ∀ i, ¬ Dn (Array.replicate ops.size false) i := fun i hd => by
    unfold Dn at hd
    rw [Array.getElem?_replicate] at hd
    split at hd <;> cases hd
  have none0 : ∀ q, φ (s.hp.n + q) = none := fun q => h.hp.none (by omega)
  have noget : ∀ q, (d 0).s.hp.get (s.hp.n + q) = none := fun q => by
    rw [T.start_get]
    cases hg : s.hp.get (s.hp.n + q) with
    | none => rfl
    | some k =>
      obtain ⟨r, x, o, e, _, _⟩ := h.hp.live _ _ hg
      rw [none0 q] at e; cases e
  have I : Inv p ops.toList (befores ops.toList []) (spare p ops.toList) s d v φ w (Array.replicate ops.size false) 0 s.hp.get φ a { w with drawn := w.drawn + 1 } := by
    refine ⟨by simp, fun i k hi => absurd hi (nodn i), .inl rfl, fun l _ => ⟨fun hd => absurd hd (nodn l), fun h => by omega⟩, ?_, ?_, by rw [T.start_n]; exact Nat.le_refl _,
      fun b k hb _ => by rw [T.start_get] at hb; exact hb, fun q _ hd => absurd hd (nodn q), fun q _ _ => noget q, fun q _ _ k hk => (by rw [noget q] at hk; cases hk), fun q _ _ => none0 q,
      fun k o tt hd => absurd hd (nodn k), fun tt x _ hx => h.tm.get tt x hx, h.tm.size, h.df⟩
    · rw [T.start_n]
      have := (h.hp.drew (k := w.drawn + 1)).hv
      exact ⟨this.live, this.inj, fun b r x e => ⟨by have := (this.dom b r x e).1; omega, (this.dom b r x e).2⟩, this.glob⟩
    · rw [T.start_n]
      have := SV.refl φ s.hp.get s.hp.n w
      exact ⟨this.le, by omega, this.size, this.frame, this.own, rfl, rfl, rfl, this.fresh⟩
  refine wpIn_region_any hm (any_sound G S (fun φ' a' w' k1 k2 => ⟨rfl, φ', k1, k2⟩) ops.size I hr ?_)
  rw [Array.toList_replicate, List.count_replicate]
  split <;> omega

/-! ### All of it -/
theorem good (hN : NoNG p) (hm : p.follows .mixedOrders = true) {T : Table} (hT : TabOk p T) : ∀ n, Good p (run p T n) := by
  intro n
  induction n using Nat.strongRecOn with
  | ind n ih =>
    cases n with
    | zero =>
      exact ⟨fun n _ _ h => (by cases h), fun _ _ h => (by cases h), fun _ _ _ h => (by cases h)⟩
    | succ n =>
      have G : Good p (run p T n) := ih n (Nat.lt_succ_self n)
      refine ⟨fun {φ rd F c s s' e a w} k hr h hx => ?_, fun hH ha h => callF_sound hN hT G hH ha h, fun hφ hH ha h => round_sound G hφ hH ha h⟩
      have hx' : codeF p (run p T n) rd c s = some (e, s') := hx
      cases c with
      | skip => cases (show some (Ex.normal, s) = some (e, s') from hx'); exact wpIn_skip ⟨rfl, φ, h, Step.refl _ _ _⟩
      | label l => cases (show some (Ex.normal, s) = some (e, s') from hx'); exact wpIn_label ⟨rfl, φ, h, Step.refl _ _ _⟩
      | seq x y => exact wpIn_seq (seq_sound G hr h hx')
      | cond c x y => exact cond_sound G hr h hx'
      | block id c => exact block_sound G hr h hx'
      | loop c => exact wpIn_loop_rounds (n + 1) (loop_sound (n + 1) (fun k hk => ih k hk) hr h (Step.refl _ _ _) hx)
      | exit id => cases (show some (Ex.exit id, s) = some (e, s') from hx'); exact wpIn_exit ⟨rfl, φ, h, Step.refl _ _ _⟩
      | goto l => cases (show some (Ex.goto l, s) = some (e, s') from hx'); exact wpIn_goto ⟨rfl, φ, h, Step.refl _ _ _⟩
      | ret => cases (show some (Ex.ret, s) = some (e, s') from hx'); exact wpIn_ret ⟨rfl, φ, h, Step.refl _ _ _⟩
      | scope c => exact scope_sound G hr h hx'
      | refuse r => cases hx'
      | region id ops draw =>
        cases draw with
        | false =>
          obtain ⟨s1, h1, h2⟩ := oM_some (show oM nrm (xOps p (run p T n) rd ops.toList ops.toList s) = some (e, s') from hx')
          cases h2
          exact region_sound G hr h h1
        | true =>
          obtain ⟨s1, h1, h2⟩ := oM_some (show oM nrm (xDrawn p (run p T n) rd ops.toList (befores ops.toList []) s) = some (e, s') from hx')
          cases h2
          exact drawn_sound hm G hr h h1
      | rangeFunc g ps assign body => exact rangeFunc_sound hN G hr h hx'

end
end Go.Shadow
namespace Go.Shadow
/-! ### Calls that only read: a call that was run over a few blocks is known over every heap that shows these. -/
mutual
/-- Every block that the value names is below n. -/
noncomputable def avLt (n : Nat) : AV → Bool
  | .ptr b _ => Nat.blt b n
  | .sl b _ _ _ _ => Nat.blt b n
  | .mp b => Nat.blt b n
  | .fn (.yield _) _ _ => false
  | .fn _ a c => avsLt n a && avsLt n c
  | .ifc _ v => avLt n v
  | .agg c => avsLt n c
  | .tup c => avsLt n c
  | _ => true
noncomputable def avsLt (n : Nat) : List AV → Bool
  | [] => true
  | v :: l => avLt n v && avsLt n l
end
noncomputable def entsLt (n : Nat) : List (AV × AV × Nat) → Bool
  | [] => true
  | e :: l => avLt n e.1 && avLt n e.2.1 && entsLt n l
noncomputable def entsEq : List (AV × AV × Nat) → List (AV × AV × Nat) → Bool
  | [], [] => true
  | a :: l, b :: m => avEq a.1 b.1 && avEq a.2.1 b.2.1 && Nat.beq a.2.2 b.2.2 && entsEq l m
  | _, _ => false
/-- The first is read only, and shows what the second shows. -/
noncomputable def roEq : ABlk → ABlk → Bool
  | .cells c e false, .cells c' e' _ => Nat.beq e e' && avEqs c c'
  | .map es cl false, .map es' cl' _ => Nat.beq cl cl' && entsEq es es'
  | _, _ => false
noncomputable def blkLt (n : Nat) : ABlk → Bool
  | .cells c _ _ => avsLt n c
  | .map es _ _ => entsLt n es
  | _ => false
noncomputable def laid (n : Nat) : List (Nat × ABlk) → Heap
  | [] => ⟨.nil, n⟩
  | x :: l => (laid n l).set x.1 x.2
noncomputable def coverB (k : ABlk) : Option ABlk → Bool
  | some k' => roEq k k'
  | none => false
noncomputable def covers (H : Heap) : List (Nat × ABlk) → Bool
  | [] => true
  | x :: l => coverB x.2 (H.get x.1) && covers H l
noncomputable def listLt (n : Nat) : List (Nat × ABlk) → Bool
  | [] => true
  | x :: l => Nat.blt x.1 n && blkLt n x.2 && listLt n l
mutual
/-- A value that names no block. -/
noncomputable def plainV : AV → Bool
  | .bool _ => true
  | .int _ _ => true
  | .str _ => true
  | .nilptr => true
  | .nilsl => true
  | .nilmp => true
  | .nilfn => true
  | .nilif => true
  | .agg c => plainVs c
  | .tup c => plainVs c
  | _ => false
noncomputable def plainVs : List AV → Bool
  | [] => true
  | v :: l => plainV v && plainVs l
end

section
variable {p : Program} {φ : Phi}
def Phi.below (φ : Phi) (n : Nat) : Phi := fun b => if b < n then φ b else none
theorem Phi.below_at {n b : Nat} {x : Nat × Nat} (h : φ b = some x) (hb : b < n) : φ.below n b = some x := by unfold Phi.below; rw [if_pos hb]; exact h
theorem Phi.below_of {n b : Nat} {x : Nat × Nat} (h : φ.below n b = some x) : φ b = some x ∧ b < n := by
  unfold Phi.below at h
  split at h
  · rename_i hb; exact ⟨h, hb⟩
  · cases h
theorem Phi.below_le {n : Nat} : Phi.le (φ.below n) φ := fun b x h => (Phi.below_of h).1


mutual
theorem VR.belowN {n : Nat} : ∀ {v : AV} {v' : Value}, VR φ v v' → avLt n v = true → VR (φ.below n) v v'
  | _, _, .bool b, _ => .bool b
  | _, _, .int k m, _ => .int k m
  | _, _, .str s, _ => .str s
  | _, _, .ptr off e, h => .ptr off (Phi.below_at e (blt_lt (by simpa [avLt] using h)))
  | _, _, .nilptr, _ => .nilptr
  | _, _, .slx off len cap e, h => .slx off len cap (Phi.below_at e (blt_lt (by simpa [avLt] using h)))
  | _, _, .slo off len cap e, h => .slo off len cap (Phi.below_at e (blt_lt (by simpa [avLt] using h)))
  | _, _, .nilsl, _ => .nilsl
  | _, _, .mp e, h => .mp (Phi.below_at e (blt_lt (by simpa [avLt] using h)))
  | _, _, .nilmp, _ => .nilmp
  | _, _, .fn (.func k) ha hc, h => .fn (.func k) (VRs.belowN ha (by simp only [avLt, Bool.and_eq_true] at h; exact h.1)) (VRs.belowN hc (by simp only [avLt, Bool.and_eq_true] at h; exact h.2))
  | _, _, .fn (.method k) ha hc, h => .fn (.method k) (VRs.belowN ha (by simp only [avLt, Bool.and_eq_true] at h; exact h.1)) (VRs.belowN hc (by simp only [avLt, Bool.and_eq_true] at h; exact h.2))
  | _, _, .fn (.methodOf t k) ha hc, h => .fn (.methodOf t k) (VRs.belowN ha (by simp only [avLt, Bool.and_eq_true] at h; exact h.1)) (VRs.belowN hc (by simp only [avLt, Bool.and_eq_true] at h; exact h.2))
  | _, _, .fn (.yield e) ha hc, h => by simp [avLt] at h
  | _, _, .nilfn, _ => .nilfn
  | _, _, .ifc e, h => .ifc (VR.belowN e (by simpa only [avLt] using h))
  | _, _, .nilif, _ => .nilif
  | _, _, .agg e, h => .agg (VRs.belowN e (by simpa only [avLt] using h))
  | _, _, .tup e, h => .tup (VRs.belowN e (by simpa only [avLt] using h))
  | _, _, .any e, _ => .any e
  | _, _, .v32 e, _ => .v32 e
theorem VRs.belowN {n : Nat} : ∀ {v : List AV} {v' : List Value}, VRs φ v v' → avsLt n v = true → VRs (φ.below n) v v'
  | _, _, .nil, _ => .nil
  | _, _, .cons e t, h => .cons (VR.belowN e (by simp only [avsLt, Bool.and_eq_true] at h; exact h.1)) (VRs.belowN t (by simp only [avsLt, Bool.and_eq_true] at h; exact h.2))
end
theorem ERs.belowN {n : Nat} : ∀ {es : List (AV × AV × Nat)} {es' : List MapEntry}, ERs φ es es' → entsLt n es = true → ERs (φ.below n) es es'
  | _, _, .nil, _ => .nil
  | _, _, .cons (.mk hk hv) t, h => by
    simp only [entsLt, Bool.and_eq_true] at h
    exact .cons (.mk (hk.belowN h.1.1) (hv.belowN h.1.2)) (t.belowN h.2)
theorem entsLt_mem {n : Nat} : ∀ {es : List (AV × AV × Nat)} {e : AV × AV × Nat}, entsLt n es = true → e ∈ es → avLt n e.2.1 = true
  | [], _, _, h => by cases h
  | x :: l, e, h, hm => by
    simp only [entsLt, Bool.and_eq_true] at h
    rcases List.mem_cons.1 hm with rfl | hm
    · exact h.1.2
    · exact entsLt_mem h.2 hm
theorem Bag.belowN {n : Nat} {es : List (AV × AV × Nat)} {es' : List MapEntry} (r : Bag φ es es') (h : entsLt n es = true) : Bag (φ.below n) es es' := by
  obtain ⟨h0, kd, h1, h2, h3, h4, h5⟩ := r
  exact ⟨h0, kd, h1, h2, fun m v c hm => let ⟨e', a, b, d⟩ := h3 m v c hm; ⟨e', a, b, d.belowN (entsLt_mem h hm)⟩, h4, h5⟩
theorem entsEq_eq : ∀ (l m : List (AV × AV × Nat)), entsEq l m = true → l = m
  | [], [], _ => rfl
  | [], _ :: _, h => by simp [entsEq] at h
  | _ :: _, [], h => by simp [entsEq] at h
  | (a, b, c) :: l, (a', b', c') :: m, h => by
    simp only [entsEq, Bool.and_eq_true] at h
    obtain ⟨⟨⟨h1, h2⟩, h3⟩, h4⟩ := h
    rw [avEq_eq _ _ h1, avEq_eq _ _ h2, Nat.eq_of_beq_eq_true h3, entsEq_eq l m h4]
theorem roEq_wr {k k' : ABlk} (h : roEq k k' = true) : k.wr = false := by
  unfold roEq at h
  split at h
  · rfl
  · rfl
  · cases h
theorem BR.ro {n x : Nat} {k k' : ABlk} {o : Obj} (h : roEq k k' = true) (hl : blkLt n k = true) (hb : BR p φ x k' o) : BR p (φ.below n) x k o := by
  unfold roEq at h
  split at h
  · simp only [Bool.and_eq_true] at h
    obtain ⟨h1, h2⟩ := h
    have := Nat.eq_of_beq_eq_true h1
    subst this
    have := avEqs_eq _ _ h2
    subst this
    cases hb with
    | cells he hc hw hx => exact .cells he (hc.belowN (by simpa only [blkLt] using hl)) (fun h => by cases h) hx
  · simp only [Bool.and_eq_true] at h
    obtain ⟨h1, h2⟩ := h
    have := Nat.eq_of_beq_eq_true h1
    subst this
    have := entsEq_eq _ _ h2
    subst this
    cases hb with
    | map e => exact .map (e.belowN (by simpa only [blkLt] using hl))
    | bag e => exact .bag (e.belowN (by simpa only [blkLt] using hl))
  · cases h
theorem laid_n {n : Nat} : ∀ (L : List (Nat × ABlk)), (laid n L).n = n
  | [] => rfl
  | x :: l => by rw [show laid n (x :: l) = (laid n l).set x.1 x.2 from rfl, Heap.n_set]; exact laid_n l
theorem laid_get {n : Nat} {H : Heap} : ∀ (L : List (Nat × ABlk)), covers H L = true → listLt n L = true → ∀ b k, (laid n L).get b = some k → b < n ∧ ∃ k', H.get b = some k' ∧ roEq k k' = true ∧ blkLt n k = true
  | [], _, _, b, k, h => by
    exfalso
    have : (⟨.nil, n⟩ : Heap).get b = none := by
      show Tr.top b (Tr.find HD (.nil : Tr ABlk) b) = none
      rw [find_nil]; rfl
    rw [show laid n [] = ⟨.nil, n⟩ from rfl, this] at h
    cases h
  | x :: l, hc, hl, b, k, h => by
    simp only [covers, Bool.and_eq_true] at hc
    simp only [listLt, Bool.and_eq_true] at hl
    by_cases e : b = x.1
    · subst e
      rw [show laid n (x :: l) = (laid n l).set x.1 x.2 from rfl, Heap.get_set] at h
      cases h
      refine ⟨blt_lt hl.1.1, ?_⟩
      cases hg : H.get x.1 with
      | none => rw [hg] at hc; exact absurd hc.1 (by simp [coverB])
      | some k' => rw [hg] at hc; exact ⟨k', rfl, hc.1, hl.1.2⟩
    · exact laid_get l hc.2 hl.2 b k (Heap.get_set_ne e h)

/-- The few blocks stand for the world, too. -/
theorem HR.pruned {H : Heap} {w : World} (h : HR p φ H w) {n : Nat} {L : List (Nat × ABlk)} (hc : covers H L = true) (hl : listLt n L = true) (hg : p.globals.size ≤ n) : HR p (φ.below n) (laid n L) w := by
  refine ⟨fun b k hk => ?_, fun b b' k k' r x x' h1 h2 e1 e2 => ?_, fun b r x e => ?_, fun g hgl => ?_⟩
  · obtain ⟨hb, k', h1, h2, h3⟩ := laid_get L hc hl b k hk
    obtain ⟨r, x, o, e1, e2, e3⟩ := h.live b k' h1
    exact ⟨r, x, o, Phi.below_at e1 hb, e2, e3.ro h2 h3⟩
  · obtain ⟨_, k1, g1, _⟩ := laid_get L hc hl b k h1
    obtain ⟨_, k2, g2, _⟩ := laid_get L hc hl b' k' h2
    exact h.inj b b' k1 k2 r x x' g1 g2 (Phi.below_of e1).1 (Phi.below_of e2).1
  · obtain ⟨e1, e2⟩ := Phi.below_of e
    rw [laid_n]
    exact ⟨e2, (h.dom b r x e1).2⟩
  · obtain ⟨x, e⟩ := h.glob g hgl
    exact ⟨x, Phi.below_at e (by omega)⟩

theorem CallOk.mono {f : FuncId} {args : Array Value} {w : World} {K K' : Value → World → Prop} (h : CallOk p f args w K) (hk : ∀ v w', K v w' → K' v w') : CallOk p f args w K' := by
  rcases h with ⟨v, w', h1, h2⟩ | ⟨h1, h2⟩
  · exact .inl ⟨v, w', h1, hk _ _ h2⟩
  · exact .inr ⟨h1, fun n => (h2 n).mono (fun e w' ⟨v, e1, e2⟩ => ⟨v, e1, hk _ _ e2⟩)⟩

/-- All blocks of the world are as they were. -/
theorem back_same {H : Heap} {w w' : World} {v : AV} {v' : Value} (h : HR p φ H w) (hv : VR φ v v') (hs : w.heap.size ≤ w'.heap.size) (hf : ∀ r, r < w.heap.size → w'.heap[r]? = w.heap[r]?)
    (ho : w'.os = w.os) (hp : w'.output = w.output) (ht : w'.tape = w.tape) : Back φ p H w v H v' w' := by
  refine ⟨φ, hv, ⟨fun b k hk => ?_, h.inj, fun b r x e => ⟨(h.dom b r x e).1, Nat.lt_of_lt_of_le (h.dom b r x e).2 hs⟩, h.glob⟩, Phi.le_refl _, Nat.le_refl _, hs, fun r hr _ => hf r hr,
    fun b k r x hb hr => .inr ⟨b, k, x, hb, hr, id⟩, ho, hp, ht, fun _ _ h => .inl h⟩
  obtain ⟨r, x, o, e1, e2, e3⟩ := h.live b k hk
  exact ⟨r, x, o, e1, by rw [hf r (h.dom b r x e1).2]; exact e2, e3⟩

mutual
theorem VR.plain {ψ : Phi} : ∀ {v : AV} {v' : Value}, VR φ v v' → plainV v = true → VR ψ v v'
  | _, _, .bool b, _ => .bool b
  | _, _, .int k m, _ => .int k m
  | _, _, .str s, _ => .str s
  | _, _, .ptr off e, h => by simp [plainV] at h
  | _, _, .nilptr, _ => .nilptr
  | _, _, .slx off len cap e, h => by simp [plainV] at h
  | _, _, .slo off len cap e, h => by simp [plainV] at h
  | _, _, .nilsl, _ => .nilsl
  | _, _, .mp e, h => by simp [plainV] at h
  | _, _, .nilmp, _ => .nilmp
  | _, _, .fn hf ha hc, h => by simp [plainV] at h
  | _, _, .nilfn, _ => .nilfn
  | _, _, .ifc e, h => by simp [plainV] at h
  | _, _, .nilif, _ => .nilif
  | _, _, .agg e, h => .agg (VRs.plain e (by simpa only [plainV] using h))
  | _, _, .tup e, h => .tup (VRs.plain e (by simpa only [plainV] using h))
  | _, _, .any e, h => by simp [plainV] at h
  | _, _, .v32 e, h => by simp [plainV] at h
theorem VRs.plain {ψ : Phi} : ∀ {v : List AV} {v' : List Value}, VRs φ v v' → plainVs v = true → VRs ψ v v'
  | _, _, .nil, _ => .nil
  | _, _, .cons e t, h => .cons (VR.plain e (by simp only [plainVs, Bool.and_eq_true] at h; exact h.1)) (VRs.plain t (by simp only [plainVs, Bool.and_eq_true] at h; exact h.2))
end

/-- One known call: the function, its arguments, the blocks, what it gives. -/
noncomputable def knows (f0 : FuncId) (args0 : List AV) (L : List (Nat × ABlk)) (v0 : AV) : Table := fun f args H =>
  match Nat.beq f f0 with
  | true => match avEqs args0 args with
    | true => match covers H L with
      | true => some (v0, H)
      | false => none
    | false => none
  | false => none
noncomputable def gives (v0 : AV) : Option (AV × Heap) → Bool
  | some x => avEq v0 x.1
  | none => false
theorem gives_some {v0 : AV} {x : Option (AV × Heap)} (h : gives v0 x = true) : ∃ H, x = some (v0, H) := by
  cases x with
  | none => cases h
  | some x => obtain ⟨v, H⟩ := x; exact ⟨H, by rw [avEq_eq _ _ (show avEq v0 v = true from h)]⟩

theorem tab_knows (hN : NoNG p) (hm : p.follows .mixedOrders = true) {T : Table} (hT : TabOk p T) {N n : Nat} {f0 : FuncId} {args0 : List AV} {L : List (Nat × ABlk)} {v0 : AV}
    (hl : listLt n L = true) (ha : avsLt n args0 = true) (hg : p.globals.size ≤ n) (hv : plainV v0 = true) (hr : gives v0 ((run p T N).call f0 args0 (laid n L)) = true) : TabOk p (knows f0 args0 L v0) := by
  intro φ f args args' H H' v w h hH hargs
  unfold knows at h
  cases hf : Nat.beq f f0 with
  | false => rw [hf] at h; cases h
  | true =>
  rw [hf] at h
  cases ha0 : avEqs args0 args with
  | false => rw [ha0] at h; cases h
  | true =>
  rw [ha0] at h
  cases hc : covers H L with
  | false => rw [hc] at h; cases h
  | true =>
  rw [hc] at h
  cases h
  have e1 := Nat.eq_of_beq_eq_true hf
  subst e1
  have e2 := avEqs_eq _ _ ha0
  subst e2
  obtain ⟨H1, h1⟩ := gives_some hr
  refine ((good hN hm hT N).call (hH.pruned hc hl hg) (hargs.belowN ha) h1).mono ?_
  rintro v' w' ⟨φ', g1, g2, g3⟩
  refine back_same hH (g1.plain hv) g3.size (fun r hr => g3.frame r hr fun b k x hb hk => ?_) g3.os g3.output g3.tape
  obtain ⟨_, k', _, h2, _⟩ := laid_get L hc hl b k hb
  rw [roEq_wr h2] at hk
  cases hk

/-- A slice of a new block, and a number: what a call gives that lays one block. -/
noncomputable def slNum (b len cap : Nat) (n : Int) : AV := .tup [.sl b 0 len cap false, .int .i64 n]
noncomputable def knowsNew (f0 : FuncId) (args0 : List AV) (L : List (Nat × ABlk)) (c : List AV) (e : TypeId) (len cap : Nat) (m : Int) : Table := fun f args H =>
  match Nat.beq f f0 with
  | true => match avEqs args0 args with
    | true => match covers H L with
      | true => some (slNum H.n len cap m, H.new (.cells c e true))
      | false => none
    | false => none
  | false => none
noncomputable def cellsAre (c : List AV) (e : TypeId) : Option ABlk → Bool
  | some (.cells c' e' true) => avEqs c c' && Nat.beq e e'
  | _ => false
noncomputable def givesNew (b : Nat) (c : List AV) (e : TypeId) (len cap : Nat) (m : Int) : Option (AV × Heap) → Bool
  | some x => avEq (slNum b len cap m) x.1 && cellsAre c e (x.2.get b)
  | none => false
theorem cellsAre_some {c : List AV} {e : TypeId} {x : Option ABlk} (h : cellsAre c e x = true) : x = some (.cells c e true) := by
  unfold cellsAre at h
  split at h
  · simp only [Bool.and_eq_true] at h
    rw [avEqs_eq _ _ h.1, Nat.eq_of_beq_eq_true h.2]
  · cases h
theorem tab_knowsNew (hN : NoNG p) (hm : p.follows .mixedOrders = true) {T : Table} (hT : TabOk p T) {N n : Nat} {f0 : FuncId} {args0 : List AV} {L : List (Nat × ABlk)} {b len cap : Nat} {c : List AV} {e : TypeId} {m : Int}
    (hl : listLt n L = true) (ha : avsLt n args0 = true) (hg : p.globals.size ≤ n) (hv : plainVs c = true) (hr : givesNew b c e len cap m ((run p T N).call f0 args0 (laid n L)) = true) : TabOk p (knowsNew f0 args0 L c e len cap m) := by
  intro φ f args args' H H' v w h hH hargs
  unfold knowsNew at h
  cases hf : Nat.beq f f0 with
  | false => rw [hf] at h; cases h
  | true =>
  rw [hf] at h
  cases ha0 : avEqs args0 args with
  | false => rw [ha0] at h; cases h
  | true =>
  rw [ha0] at h
  cases hc : covers H L with
  | false => rw [hc] at h; cases h
  | true =>
  rw [hc] at h
  cases h
  have e1 := Nat.eq_of_beq_eq_true hf
  subst e1
  have e2 := avEqs_eq _ _ ha0
  subst e2
  cases hrun : (run p T N).call f args0 (laid n L) with
  | none => rw [hrun] at hr; cases hr
  | some x =>
  obtain ⟨v1, H1⟩ := x
  rw [hrun] at hr
  have hr' : (avEq (slNum b len cap m) v1 && cellsAre c e (H1.get b)) = true := hr
  simp only [Bool.and_eq_true] at hr'
  have e3 := avEq_eq _ _ hr'.1
  subst e3
  have hcell := cellsAre_some hr'.2
  refine ((good hN hm hT N).call (hH.pruned hc hl hg) (hargs.belowN ha) hrun).mono ?_
  rintro v' w' ⟨φ', g1, g2, g3⟩
  have noW : ∀ b0 k0, (laid n L).get b0 = some k0 → k0.wr = false := fun b0 k0 hb => by
    obtain ⟨_, k', _, h2, _⟩ := laid_get L hc hl b0 k0 hb
    exact roEq_wr h2
  have hfr : ∀ r, r < w.heap.size → w'.heap[r]? = w.heap[r]? := fun r hr => g3.frame r hr fun b0 k0 x hb hk => by rw [noW b0 k0 hb] at hk; cases hk
  have hsame : Back φ p H w (.bool true) H (.bool true) w' := back_same hH (.bool true) g3.size hfr g3.os g3.output g3.tape
  obtain ⟨r, x, o, f1, f2, f3⟩ := g2.live b _ hcell
  have hnew : w.heap.size ≤ r := by
    rcases g3.own b _ r x hcell f1 with h1 | ⟨b0, k0, x0, h1, h2, h3⟩
    · exact h1
    · have := h3 rfl
      rw [noW b0 k0 h1] at this; cases this
  have hrs : r < w'.heap.size := (g2.dom b r x f1).2
  have hnone : φ H.n = none := hH.none (Nat.le_refl _)
  have hle : Phi.le φ (φ.add H.n (r, x)) := Phi.le_add hnone
  have hsl : VR (φ.add H.n (r, x)) (slNum H.n len cap m) v' := by
    unfold slNum at g1
    cases g1 with
    | @tup _ vs' hvs =>
      generalize el : vs'.toList = l at hvs
      cases hvs with
      | cons hv1 hvs =>
        cases hvs with
        | cons hv2 hvs =>
          cases hvs with
          | nil =>
          cases hv1 with
          | slo off len cap hb =>
            rw [f1] at hb; cases hb
            refine .tup ?_
            rw [el]
            exact .cons (.slo 0 len cap Phi.add_same) (.cons (hv2.plain rfl) .nil)
  refine ⟨φ.add H.n (r, x), hsl, ⟨fun b0 k0 hk => ?_, fun b1 b2 k1 k2 r' x1 x2 h1 h2 p1 p2 => ?_, fun b0 r' x' p1 => ?_, fun g hg => ?_⟩, ⟨hle, by rw [Heap.n_new]; omega, g3.size, fun r hr _ => hfr r hr, fun b0 k0 r' x' hk p1 => ?_, g3.os, g3.output, g3.tape, fun b0 y p1 => ?_⟩⟩
  · by_cases e : b0 = H.n
    · subst e
      rw [Heap.get_new] at hk
      cases hk
      refine ⟨r, x, o, Phi.add_same, f2, ?_⟩
      cases f3 with
      | cells he hc hw hx => exact .cells he (hc.plain hv) hw hx
    · obtain ⟨r', y, o', p1, p2, p3⟩ := hH.live b0 k0 (Heap.get_new_ne e hk)
      exact ⟨r', y, o', hle _ _ p1, by rw [hfr r' (hH.dom _ _ _ p1).2]; exact p2, p3.mono hle⟩
  · by_cases q1 : b1 = H.n
    · by_cases q2 : b2 = H.n
      · rw [q1, q2]
      · rw [q1, Phi.add_same] at p1
        rw [Phi.add_ne q2] at p2
        have := (hH.dom _ _ _ p2).2
        cases p1
        omega
    · by_cases q2 : b2 = H.n
      · rw [q2, Phi.add_same] at p2
        rw [Phi.add_ne q1] at p1
        have := (hH.dom _ _ _ p1).2
        cases p2
        omega
      · rw [Phi.add_ne q1] at p1
        rw [Phi.add_ne q2] at p2
        exact hH.inj b1 b2 _ _ r' x1 x2 (Heap.get_new_ne q1 h1) (Heap.get_new_ne q2 h2) p1 p2
  · rw [Heap.n_new]
    by_cases q : b0 = H.n
    · rw [q, Phi.add_same] at p1
      cases p1
      exact ⟨by omega, hrs⟩
    · rw [Phi.add_ne q] at p1
      have := hH.dom _ _ _ p1
      exact ⟨by omega, Nat.lt_of_lt_of_le this.2 g3.size⟩
  · obtain ⟨y, hy⟩ := hH.glob g hg
    exact ⟨y, hle _ _ hy⟩
  · by_cases q : b0 = H.n
    · rw [q, Phi.add_same] at p1
      cases p1
      exact .inl hnew
    · rw [Phi.add_ne q] at p1
      exact .inr ⟨b0, k0, x', Heap.get_new_ne q hk, p1, id⟩
  · by_cases q : b0 = H.n
    · exact .inr (by omega)
    · rw [Phi.add_ne q] at p1; exact .inl p1

/-- Two tables, one behind the other. -/
noncomputable def Table.or (T T' : Table) : Table := fun f args H => match T f args H with | some r => some r | none => T' f args H
theorem tab_or {T T' : Table} (h : TabOk p T) (h' : TabOk p T') : TabOk p (T.or T') := by
  intro φ f args args' H H' v w hx hH ha
  unfold Table.or at hx
  cases ht : T f args H with
  | some r => rw [ht] at hx; cases hx; exact h ht hH ha
  | none => rw [ht] at hx; exact h' hx hH ha
end
end Go.Shadow
