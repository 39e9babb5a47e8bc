/- Proved here: a part of the shadow run: conversions, calls, defers, frames and rounds are as the model's. Conditions: those of the row Rows.traceImagesRow (its listed variables as laid); none else. -/
import Derived.Test.YtmaknbbijgihgaaGreatDoorS2
import Derived.LoopNIn
import Derived.Scope
import Derived.Room.MakeNoZero
set_option linter.all false
namespace Go.Shadow
section
variable {p : Program} {φ : Phi} {s : St} {ρ : Operand → Value} {o : Oper}

/-! ### Conversions -/
theorem Gives.still {H : Heap} {w : World} {m : Sem Value} {v : AV} {v' : Value} (hH : HR p φ H w) (h : m.run p w = .ok v' w) (hv : VR φ v v') : Gives φ p H w m (.v v) := ⟨v', w, φ, h, hv, hH, Step.refl _ _ _⟩

theorem toUnsafe_some {d : TypeDesc} (h : toUnsafe d = true) : d = .unsafePointer := by cases d <;> first | rfl | cases h

theorem run_viewAt {w : World} {r : Nat} {arr : Array Value} {e : TypeId} {fr : Nat × Nat} (h : w.heap[r]? = some (.cells arr e fr)) : (viewAt r).run p w = .ok none w := by
  unfold viewAt; simp [World.shape?, h]
theorem run_seenAt {w : World} {r off : Nat} {arr : Array Value} {e : TypeId} {fr : Nat × Nat} (h : w.heap[r]? = some (.cells arr e fr)) : (Conv.seenAt ⟨r, off, none⟩).run p w = .ok ⟨r, off, none⟩ w := by
  unfold Conv.seenAt; simp [run_viewAt h]
theorem run_cellsIn {w : World} {r : Nat} {arr : Array Value} {e : TypeId} {fr : Nat × Nat} (h : w.heap[r]? = some (.cells arr e fr)) : (cellsIn r).run p w = .ok (some arr.size) w := by
  unfold cellsIn; simp [World.shape?, h]

theorem HR.liveCells {H : Heap} {w : World} (hH : HR p φ H w) {b r x : Nat} {c : List AV} {e : TypeId} {wr : Bool} (hk : H.get b = some (.cells c e wr)) (hφ : φ b = some (r, x)) :
    ∃ arr fr, w.heap[r]? = some (.cells arr e fr) ∧ c.length ≤ arr.size := by
  obtain ⟨r', x', arr, fr, c', rest, g1, g2, g3, g4, g5, g6⟩ := hH.cells hk
  rw [hφ] at g1; cases g1
  refine ⟨arr, fr, g2, ?_⟩
  rw [← Array.length_toList, g3, List.length_append, g4.length]; omega

theorem inBlk_some {off : Nat} {k : ABlk} (h : inBlk off k = true) : ∃ c e wr, k = .cells c e wr ∧ off < c.length := by
  cases k <;> first | (cases h; done) | exact ⟨_, _, _, rfl, blt_lt h⟩
theorem liesB_some {off : Nat} {u : TypeId} {k : ABlk} (h : liesB p off u k = true) : ∃ c e wr, k = .cells c e wr ∧ liesA p e c off u 1 = true := by
  cases k <;> first | (cases h; done) | exact ⟨_, _, _, rfl, h⟩

theorem alloc_freeze {w : World} {arr : Array Value} {e : TypeId} : (w.alloc (.cells arr e)).freeze ⟨w.heap.size, arr.size, none⟩ 1 = w.alloc (.cells arr e (arr.size, arr.size + 1)) := by
  unfold World.freeze World.alloc
  rw [if_neg (by omega)]
  congr 1
  apply Array.ext_getElem?
  intro i
  rw [Array.getElem?_modify]
  by_cases hi : w.heap.size = i
  · subst hi; simp
  · have hi' : i ≠ w.heap.size := fun h => hi h.symm
    simp [hi, hi', Array.getElem?_push]

def byteRow (u : ByteArray) (extra : Nat) : Array Value := (u.data.map fun (b : UInt8) => Value.int .u8 b.toNat) ++ Array.replicate extra (.int .u8 0)

theorem run_markStringish {w : World} {arr : Array Value} {e : TypeId} : (markStringish ⟨w.heap.size, 0, none⟩).run p (w.alloc (.cells arr e)) = .ok () (w.alloc (.cells arr e (arr.size, arr.size + 1))) := by
  have hg : (w.alloc (.cells arr e)).heap[w.heap.size]? = some (.cells arr e) := by
    show (w.heap.push (.cells arr e))[w.heap.size]? = _
    simp
  have hs := run_shape (p := p) hg
  unfold markStringish
  rw [Sem.run_bind, hs, Result.andThen_ok, ← alloc_freeze]
  rfl

theorem run_stringToBytes {w : World} {e : TypeId} {u : ByteArray} : ∃ extra, (Conv.stringToBytes e u).run p w =
    .ok (.slice (some ⟨w.heap.size, 0, none⟩) u.size (u.size + extra)) (w.drew.alloc (.cells (byteRow u extra) e ((byteRow u extra).size, (byteRow u extra).size + 1))) := by
  let extra := (w.tape w.drawn (Question.appendCap u.size 0 e)) % (2 ^ 63 - u.size)
  have hsub : u.size + extra - u.size = extra := by omega
  have hch : (choose (.appendCap u.size 0 e)).run p w = .ok (u.size + extra) w.drew := rfl
  refine ⟨extra, ?_⟩
  unfold Conv.stringToBytes
  simp only [Sem.run_bind, hch, run_newRow, hsub, Result.andThen_ok]
  have hm := run_markStringish (p := p) (w := w.drew) (arr := byteRow u extra) (e := e)
  have : (markStringish ⟨w.drew.heap.size, 0, none⟩).run p { w.drew with heap := w.drew.heap.push (.cells (byteRow u extra) e) } = _ := hm
  show ((markStringish ⟨w.drew.heap.size, 0, none⟩).run p { w.drew with heap := w.drew.heap.push (.cells (byteRow u extra) e) }).andThen _ = _
  rw [this]
  rfl

theorem conv_sound {H : Heap} {w : World} {a b : TypeId} {src dst : TypeDesc} {x : AV} {x' : Value} {r : ORes} (hH : HR p φ H w) (hx : VR φ x x') (ha : p.underlying a = some src) (hb : p.underlying b = some dst) (h : convD p H x src dst = some r) :
    Gives φ p H w (Go.convert a b x') r := by
  unfold convD at h
  split at h
  · -- integers
    split at h
    · rename_i k
      obtain ⟨v, rfl, h1⟩ := okV_some h
      unfold convInt at h1
      split at h1
      · cases h1
        rw [hx.int_inv]
        refine .still hH (v' := .int k (k.wrap _)) ?_ (by rw [wrapI_eq]; exact .int _ _)
        unfold Go.convert
        simp [run_underlying ha, run_underlying hb, Conv.intToInt]
      · cases h1
    · cases h
  · -- strings
    unfold strTo at h
    split at h
    · obtain ⟨v, rfl, h1⟩ := okV_some h
      unfold isStr at h1
      split at h1
      · cases h1
        obtain ⟨u, rfl, rfl⟩ := hx.str_inv
        refine .still hH (v' := .string u) ?_ (.str u)
        unfold Go.convert
        simp [run_underlying ha, run_underlying hb]
      · cases h1
    · rename_i e
      obtain ⟨de, h1, h2⟩ := oB_some h
      split at h2
      · unfold strBytes at h2
        split at h2
        · obtain ⟨n, h3, h4⟩ := oB_some h2
          obtain ⟨h5, h6⟩ := guardB_some h4
          cases h6
          simp only [Bool.and_eq_true] at h5
          have hn := beq_eq h5.1
          subst hn
          obtain ⟨u, rfl, rfl⟩ := hx.str_inv
          obtain ⟨extra, hrun⟩ := run_stringToBytes (p := p) (w := w) (e := e) (u := u)
          have hlen : (u.data.toList.map UInt8.toNat).length = u.size := by simp
          obtain ⟨g1, g2⟩ := (hH.drew (k := w.drawn + 1)).new (x := extra) (k := .cells (byteCells (u.data.toList.map UInt8.toNat)) e true)
            (o := .cells (byteRow u extra) e ((byteRow u extra).size, (byteRow u extra).size + 1))
            (fun ψ _ => .cells (c' := (u.data.toList.map fun (b : UInt8) => Value.int .u8 b.toNat)) (rest := List.replicate extra (.int .u8 0)) (by simp [byteRow]) (byteCells_vr _) (fun _ off ho hh => by simp only at hh; omega) (fun n hn => by
              rw [h3] at hn; cases hn
              have e3 : u.data.size = u.size := rfl
              simp [byteCells, byteRow, e3]))
          refine ⟨.slice (some ⟨w.heap.size, 0, none⟩) u.size (u.size + extra), _, _, ?_, ?_, g1, ⟨g2.le, g2.n, g2.size, g2.frame, g2.own, g2.os, g2.output, g2.tape, g2.fresh⟩⟩
          · unfold Go.convert
            simp only [Sem.run_bind, run_underlying ha, run_underlying hb, Result.andThen_ok, run_underlying h1]
            exact hrun
          · rw [hlen]
            exact VR.slo 0 u.size u.size Phi.add_same
        · cases h2
      · cases h2
    · cases h
  · -- pointers
    rename_i t
    obtain ⟨h1, h2⟩ := guardB_some h
    have hd := toUnsafe_some h1
    subst hd
    obtain ⟨v, rfl, h3⟩ := okV_some h2
    unfold toRef at h3
    split at h3
    · obtain ⟨k, h4, h5⟩ := oB_some h3
      obtain ⟨n, h6, h7⟩ := oB_some h5
      obtain ⟨h8, h9⟩ := guardB_some h7
      cases h9
      simp only [Bool.and_eq_true] at h8
      obtain ⟨c, e, wr, rfl, hlt⟩ := inBlk_some h8.2
      have h0 := blt_lt h8.1
      obtain ⟨q, y, e1, rfl⟩ := hx.ptr_inv
      obtain ⟨arr, fr, g1, g2⟩ := hH.liveCells h4 e1
      refine .still hH ?_ (.ptr _ e1)
      unfold Go.convert
      simp only [Sem.run_bind, run_underlying ha, run_underlying hb, Result.andThen_ok]
      unfold Conv.unsafePointer
      simp [run_underlying ha, run_underlying hb, run_seenAt g1, run_cellsIn g1, run_sizeOf h6]
      omega
    · cases h3
      have : x' = .pointer none := by cases hx; rfl
      subst this
      refine .still hH (v' := .pointer none) ?_ .nilptr
      unfold Go.convert
      simp only [Sem.run_bind, run_underlying ha, run_underlying hb, Result.andThen_ok]
      unfold Conv.unsafePointer
      simp [run_underlying ha, run_underlying hb]
    · cases h3
  · split at h
    · rename_i u
      obtain ⟨v, rfl, h3⟩ := okV_some h
      unfold ofRef at h3
      split at h3
      · obtain ⟨k, h4, h5⟩ := oB_some h3
        obtain ⟨n, h6, h7⟩ := oB_some h5
        obtain ⟨h8, h9⟩ := guardB_some h7
        cases h9
        simp only [Bool.and_eq_true] at h8
        obtain ⟨c, e, wr, rfl, hl⟩ := liesB_some h8.2
        have h0 := blt_lt h8.1
        obtain ⟨q, y, e1, rfl⟩ := hx.ptr_inv
        obtain ⟨arr, fr, g1, g2⟩ := hH.liveCells h4 e1
        refine .still hH ?_ (.ptr _ e1)
        unfold Go.convert
        simp only [Sem.run_bind, run_underlying ha, run_underlying hb, Result.andThen_ok]
        unfold Conv.unsafePointer
        simp [run_underlying ha, run_underlying hb, run_seenAt g1, run_sizeOf h6, run_variablesAt g1 g2 hl]
      · cases h3
        have : x' = .pointer none := by cases hx; rfl
        subst this
        refine .still hH (v' := .pointer none) ?_ .nilptr
        unfold Go.convert
        simp only [Sem.run_bind, run_underlying ha, run_underlying hb, Result.andThen_ok]
        unfold Conv.unsafePointer
        simp [run_underlying ha, run_underlying hb]
      · cases h3
    · cases h
  · cases h

end
end Go.Shadow
namespace Go.Shadow
section
variable {p : Program} {φ : Phi} {s : St} {ρ : Operand → Value} {o : Oper}

theorem cap_still {ts : Array TypeId} {ty t e : TypeId} {x : AV} {x' : Value} {v : AV} (hx : VR φ x x') (h0 : ts[0]? = some t) (ht : p.underlying t = some (.slice e)) (h : capOf x = some v) : Still φ p (Builtin.cap_ ts ty #[x']) v := by
  unfold capOf at h
  split at h
  · cases h
    rw [hx.nilsl_inv]
    exact ⟨goInt 0, fun w => by unfold Builtin.cap_; simp [h0, run_underlying ht], .int _ _⟩
  · cases h
    obtain ⟨r, y, e1, rfl⟩ := hx.sl_inv
    exact ⟨goInt _, fun w => by unfold Builtin.cap_; simp [h0, run_underlying ht], .int _ _⟩
  · cases h

theorem Still.calm {m : Sem Value} {v : AV} (h : Still φ p m v) (he : ∀ w, (execOp ρ o).run p w = ((do pure (Next.value (← m))) : Sem Next).run p w) : Calm φ p ρ o v := by
  obtain ⟨v', h1, h2⟩ := h
  exact ⟨v', fun w => by rw [he w]; simp [h1 w], h2⟩

theorem Gives.does {H : Heap} {w : World} {m : Sem Value} {r : ORes} (h : Gives φ p H w m r) (he : (execOp ρ o).run p w = ((do pure (Next.value (← m))) : Sem Next).run p w) : Does φ p ρ o H w r := by
  obtain ⟨v', w', φ', h1, h2, h3, h4⟩ := h
  exact ⟨.value v', v', w', φ', by rw [he]; simp [h1], .inl rfl, h2, h3, h4⟩

theorem opCall_some {c : Call} {r : ORes} (h : opCall p s c = some r) : ∃ b l, c.callee = .builtin b ∧ evs p s c.args.toList = some l ∧ builtin p s.hp b c.argTypes l = some r := by
  unfold opCall at h
  split at h
  · rename_i b hb
    obtain ⟨l, h1, h2⟩ := oB_some h
    exact ⟨b, l, hb, h1, h2⟩
  · cases h

theorem args_vr {c : Call} {l : List AV} (ho : o.op = .call c) (hρ : EvR φ p s ρ o.op.operands.toList) (h : evs p s c.args.toList = some l) : VRs φ l (c.args.map ρ).toList := by
  rw [Array.toList_map]
  exact evs_sound (hρ.sub (by intro z hz; rw [ho]; simp [Op.operands, Call.operands] at hz ⊢; exact .inr hz)) h

/-- A builtin that looks at no heap. -/
theorem builtin_calm {c : Call} {b : Builtin} {l : List AV} {r : ORes} (ho : o.op = .call c) (hb : c.callee = .builtin b) (hcls : clsBuiltin p c.argTypes b = .calm) (hρ : EvR φ p s ρ o.op.operands.toList)
    (hl : evs p s c.args.toList = some l) (h : builtin p s.hp b c.argTypes l = some r) : ∃ v, r = .v v ∧ Calm φ p ρ o v := by
  have ha := args_vr ho hρ hl
  have he := fun w => exec_builtin (p := p) (ρ := ρ) (w := w) ho hb
  cases b <;> simp only [clsBuiltin] at hcls <;> simp only [builtin] at h <;> first | (cases hcls; done) | (cases h; done) | skip
  case len =>
    obtain ⟨t, h0, h1⟩ := ty0_some h
    obtain ⟨x, rfl, h2⟩ := arg1_some h1
    obtain ⟨v, rfl, h3⟩ := okV_some h2
    obtain ⟨d, h4, h5⟩ := oB_some h3
    obtain ⟨x', e1, hx⟩ := args1 ha
    refine ⟨v, rfl, (len_still (ty := o.type) hx h0 h4 ?_ h5).calm fun w => by rw [he w, e1]; rfl⟩
    have hd : oB c.argTypes[0]? p.underlying = some d := by unfold oB; rw [h0]; exact h4
    rw [hd] at hcls
    cases d <;> first | rfl | (simp [clsLen] at hcls; done)
  case cap =>
    obtain ⟨t, h0, h1⟩ := ty0_some h
    obtain ⟨e, h2, h3⟩ := oB_some h1
    obtain ⟨x, rfl, h4⟩ := arg1_some h3
    obtain ⟨v, rfl, h5⟩ := okV_some h4
    obtain ⟨x', e1, hx⟩ := args1 ha
    exact ⟨v, rfl, (cap_still (ty := o.type) hx h0 (elemOf_slice h2) h5).calm fun w => by rw [he w, e1]; rfl⟩
  case max =>
    obtain ⟨x, y, rfl, h4⟩ := arg2_some h
    obtain ⟨v, rfl, h5⟩ := okV_some h4
    obtain ⟨x', y', e1, hx, hy⟩ := args2 ha
    exact ⟨v, rfl, (max_still (ts := c.argTypes) (ty := o.type) hx hy h5).calm fun w => by rw [he w, e1]; rfl⟩
  case min =>
    obtain ⟨x, y, rfl, h4⟩ := arg2_some h
    obtain ⟨v, rfl, h5⟩ := okV_some h4
    obtain ⟨x', y', e1, hx, hy⟩ := args2 ha
    exact ⟨v, rfl, (min_still (ts := c.argTypes) (ty := o.type) hx hy h5).calm fun w => by rw [he w, e1]; rfl⟩
  case unsafeSliceData =>
    obtain ⟨x, rfl, h4⟩ := arg1_some h
    obtain ⟨v, rfl, h5⟩ := okV_some h4
    obtain ⟨x', e1, hx⟩ := args1 ha
    exact ⟨v, rfl, (sliceData_still (ts := c.argTypes) (ty := o.type) hx h5).calm fun w => by rw [he w, e1]; rfl⟩

/-- A builtin, whatever it is. -/
theorem builtin_does {w : World} {c : Call} {b : Builtin} {l : List AV} {r : ORes} (hH : HR p φ s.hp w) (ho : o.op = .call c) (hb : c.callee = .builtin b) (hρ : EvR φ p s ρ o.op.operands.toList)
    (hl : evs p s c.args.toList = some l) (h : builtin p s.hp b c.argTypes l = some r) : Does φ p ρ o s.hp w r := by
  have ha := args_vr ho hρ hl
  have he := exec_builtin (p := p) (ρ := ρ) (w := w) ho hb
  have calm : clsBuiltin p c.argTypes b = .calm → Does φ p ρ o s.hp w r := fun hc => by
    obtain ⟨v, rfl, h1⟩ := builtin_calm ho hb hc hρ hl h
    exact (h1.reads w).does hH
  cases b <;> first | exact calm rfl | (simp only [builtin] at h; cases h; done) | skip
  case append =>
    obtain ⟨t, h0, h1⟩ := ty0_some h
    obtain ⟨x, y, rfl, h2⟩ := arg2_some h1
    obtain ⟨x', y', e1, hx, hy⟩ := args2 ha
    exact (append_sound (ty := o.type) hH hx hy h0 h2).does (by rw [he, e1]; rfl)
  case copy =>
    obtain ⟨t, h0, h1⟩ := ty0_some h
    obtain ⟨x, y, rfl, h2⟩ := arg2_some h1
    obtain ⟨x', y', e1, hx, hy⟩ := args2 ha
    exact (copy_sound (ty := o.type) hH hx hy h0 h2).does (by rw [he, e1]; rfl)
  case len =>
    obtain ⟨t, h0, h1⟩ := ty0_some h
    obtain ⟨x, rfl, h2⟩ := arg1_some h1
    obtain ⟨v, rfl, h3⟩ := okV_some h2
    obtain ⟨d, h4, h5⟩ := oB_some h3
    obtain ⟨x', e1, hx⟩ := args1 ha
    have hd : oB c.argTypes[0]? p.underlying = some d := by unfold oB; rw [h0]; exact h4
    cases d <;> first | (refine calm ?_; unfold clsBuiltin; rw [hd]; rfl) | skip
    rename_i k e
    obtain ⟨v', g1, g2⟩ := len_map (ty := o.type) hH hx h0 h4 h5
    exact (Gives.still hH g1 g2).does (by rw [he, e1]; rfl)
  case unsafeString =>
    obtain ⟨t, h0, h1⟩ := ty0_some h
    obtain ⟨x, y, rfl, h2⟩ := arg2_some h1
    obtain ⟨x', y', e1, hx, hy⟩ := args2 ha
    exact (uString_sound (ty := o.type) hH hx hy h0 h2).does (by rw [he, e1]; rfl)

end
end Go.Shadow
namespace Go.Shadow
section
variable {p : Program} {φ : Phi} {s : St} {ρ : Operand → Value} {o : Oper}

theorem okV_calm {x : Option AV} {r : ORes} (h : okV x = some r) (hc : ∀ v, x = some v → Calm φ p ρ o v) : ∃ v, r = .v v ∧ Calm φ p ρ o v := by
  obtain ⟨v, h1, h2⟩ := okV_some h
  exact ⟨v, h1, hc v h2⟩

/-- Operations that look at no heap. -/
theorem xOp_calm {r : ORes} (hcls : cls p o.op = .calm) (hρ : EvR φ p s ρ o.op.operands.toList) (h : xOp p s o.op = some r) : ∃ v, r = .v v ∧ Calm φ p ρ o v := by
  cases ho : o.op <;> rw [ho] at h hcls <;> simp only [cls] at hcls <;> simp only [xOp] at h <;> first | (cases hcls; done) | (cases h; done) | skip
  case move x => exact okV_calm h fun v hv => calm_move ho hρ hv
  case assign x => exact okV_calm h fun v hv => calm_assign ho hρ hv
  case pick c a b => exact okV_calm h fun v hv => calm_pick ho hρ hv
  case build t parts => exact okV_calm h fun v hv => calm_build ho hρ hv
  case nilCheck x => exact okV_calm h fun v hv => calm_nilCheck ho hρ hv
  case binOp op t x y z => exact okV_calm h fun v hv => calm_binOp ho hρ hv
  case unOp op t x => exact okV_calm h fun v hv => calm_unOp ho hρ hv
  case makeInterface t x => exact okV_calm h fun v hv => calm_iface ho hρ hv
  case makeFunc f a b => exact okV_calm h fun v hv => calm_makeFunc ho hρ hv
  case slice t x lo hi mx => exact okV_calm h fun v hv => calm_slice ho hρ hv
  case fieldAddr t x f => exact okV_calm h fun v hv => calm_fieldAddr ho hρ hv
  case field t x f => exact okV_calm h fun v hv => calm_field ho hρ hv
  case indexAddr t x i => exact okV_calm h fun v hv => calm_indexAddr ho hρ hv
  case index t x i => exact okV_calm h fun v hv => calm_index ho hρ hv
  case extract x i => exact okV_calm h fun v hv => calm_extract ho hρ hv
  case call c =>
    obtain ⟨b, l, h1, h2, h3⟩ := opCall_some h
    rw [h1] at hcls
    exact builtin_calm ho h1 hcls hρ h2 h3

theorem makeSl_some {H : Heap} {e : TypeId} {l c : AV} {r : ORes} (h : makeSl p H e l c = some r) :
    ∃ k k' a b z n, l = .int k (Int.ofNat a) ∧ c = .int k' (Int.ofNat b) ∧ zeroOf p e = some z ∧ sizeOf p e = some n ∧ z.cells.length = n ∧ a ≤ b ∧ b < 100000 ∧ 0 < n ∧ fewBytes p e = true ∧
      r = .vh (.sl H.n 0 a b true) (newCells H (repCells z.cells b) e) := by
  unfold makeSl at h
  split at h
  · obtain ⟨z, h1, h2⟩ := oB_some h
    obtain ⟨n, h3, h4⟩ := oB_some h2
    obtain ⟨h5, h6⟩ := guardB_some h4
    cases h6
    simp only [Bool.and_eq_true] at h5
    obtain ⟨⟨⟨⟨g1, g2⟩, g3⟩, g4⟩, g5⟩ := h5
    exact ⟨_, _, _, _, z, n, rfl, rfl, h1, h3, beq_eq g1, ble_le g2, blt_lt g3, blt_lt g4, g5, rfl⟩
  · cases h

theorem heap_self (s : St) : s.heap s.hp = s := by cases s; rfl
theorem ev_heap {H : Heap} {x : Operand} : ev p (s.heap H) x = ev p s x := by cases s; cases x <;> rfl
theorem evParts_heap {H : Heap} : ∀ {l : List (Nat × Operand)}, evParts p (s.heap H) l = evParts p s l
  | [] => rfl
  | x :: l => by unfold evParts; rw [ev_heap, evParts_heap]
theorem hp_heap {H : Heap} : (s.heap H).hp = H := by cases s; rfl

/-- Operations that lay a block, the same whatever the heap. -/
theorem xOp_allocs {r : ORes} (hcls : cls p o.op = .allocs) (hρ : EvR φ p s ρ o.op.operands.toList) (h : xOp p s o.op = some r) :
    ∃ mkA k, (∀ H, xOp p (s.heap H) o.op = some (.vh (mkA H.n) (H.new k))) ∧ r = .vh (mkA s.hp.n) (s.hp.new k) ∧ Allocs φ p ρ o mkA k := by
  have self : ∀ (mkA : Nat → AV) (k : ABlk), (∀ H, xOp p (s.heap H) o.op = some (.vh (mkA H.n) (H.new k))) → r = .vh (mkA s.hp.n) (s.hp.new k) := fun mkA k hH => by
    have h1 := hH s.hp
    have h2 : s.heap s.hp = s := heap_self s
    rw [h2, h] at h1
    exact Option.some.inj h1
  have fin : ∀ (mkA : Nat → AV) (k : ABlk), (∀ H, xOp p (s.heap H) o.op = some (.vh (mkA H.n) (H.new k))) → Allocs φ p ρ o mkA k →
      ∃ mkA k, (∀ H, xOp p (s.heap H) o.op = some (.vh (mkA H.n) (H.new k))) ∧ r = .vh (mkA s.hp.n) (s.hp.new k) ∧ Allocs φ p ρ o mkA k := fun mkA k h1 h2 => ⟨mkA, k, h1, self mkA k h1, h2⟩
  cases ho : o.op <;> rw [ho] at hcls <;> simp only [cls] at hcls <;> first | (cases hcls; done) | skip
  case call c => 
    have hc : (match c.callee with | .builtin b => clsBuiltin p c.argTypes b | _ => Cls.loud) = .allocs := hcls
    split at hc
    · rename_i b hb
      cases b <;> simp only [clsBuiltin] at hc <;> first | (cases hc; done) | skip
      split at hc
      · rename_i d hd
        cases d <;> cases hc
      · cases hc
    · cases hc
  case alloc t =>
    have h' := h
    rw [ho] at h'
    obtain ⟨z, h1, h2⟩ := oM_some (show oM (newRow s.hp t) (zeroOf p t) = some r from h')
    rw [← ho]
    refine fin _ _ (fun H => ?_) (alloc_alloc ho h1)
    rw [ho]
    show oM (newRow (s.heap H).hp t) (zeroOf p t) = _
    rw [h1, hp_heap]; rfl
  case box t x =>
    have h' := h
    rw [ho] at h'
    obtain ⟨v, h1, h2⟩ := oM_some (show oM (newRow s.hp t) (ev p s x) = some r from h')
    rw [← ho]
    refine fin _ _ (fun H => ?_) (alloc_box ho hρ h1)
    rw [ho]
    show oM (newRow (s.heap H).hp t) (ev p (s.heap H) x) = _
    rw [ev_heap, h1, hp_heap]; rfl
  case makeMap t x =>
    have h' := h
    rw [ho] at h'
    cases x with
    | some _ => cases h'
    | none =>
      rw [← ho]
      refine fin _ _ (fun H => ?_) (alloc_makeMap ho)
      rw [ho]
      show makeMapB (s.heap H).hp none = _
      rw [hp_heap]; rfl
  case makeSlice t l c =>
    have h' := h
    rw [ho] at h'
    obtain ⟨e, h1, h2⟩ := oB_some (show opMakeSl p s t l c = some r from h')
    obtain ⟨lv, h3, h4⟩ := oB_some h2
    obtain ⟨cv, h5, h6⟩ := oB_some h4
    obtain ⟨k, k', a, b, z, n, rfl, rfl, g1, g2, g3, g4, g5, g6, g7, g8⟩ := makeSl_some h6
    rw [← ho]
    refine fin _ _ (fun H => ?_) (alloc_makeSlice ho hρ (elemOf_slice h1) h3 h5 g1 g2 g3 g4 g5 g6 g7)
    rw [ho]
    show opMakeSl p (s.heap H) t l c = _
    unfold opMakeSl
    rw [h1]
    show oB (ev p (s.heap H) l) _ = _
    rw [ev_heap, h3]
    show oB (ev p (s.heap H) c) _ = _
    rw [ev_heap, h5, hp_heap]
    show makeSl p H e (.int k (Int.ofNat a)) (.int k' (Int.ofNat b)) = some _
    unfold makeSl
    simp only
    rw [g1]
    show oB (sizeOf p e) _ = _
    rw [g2]
    show guardB _ _ = _
    have e1 : Nat.beq z.cells.length n = true := Nat.beq_eq ▸ g3
    have e2 : Nat.ble a b = true := Nat.ble_eq_true_of_le g4
    have e3 : Nat.blt b 100000 = true := Nat.blt_eq ▸ g5
    have e4 : Nat.blt 0 n = true := Nat.blt_eq ▸ g6
    rw [e1, e2, e3, e4, g7]
    rfl
  case buildSlice t len parts =>
    have h' := h
    rw [ho] at h'
    obtain ⟨l, h1, h2⟩ := oB_some (show oB (evParts p s parts.toList) (buildSlice p s.hp t len) = some r from h')
    obtain ⟨e, h3, h4⟩ := oB_some h2
    obtain ⟨z, h5, h6⟩ := oB_some h4
    obtain ⟨n, h7, h8⟩ := oB_some h6
    obtain ⟨h9, h10⟩ := guardB_some h8
    obtain ⟨cs, h11, h12⟩ := oM_some h10
    have h9' := h9
    simp only [Bool.and_eq_true] at h9'
    obtain ⟨⟨⟨g1, g2⟩, g3⟩, g4⟩ := h9'
    rw [← ho]
    refine fin _ _ (fun H => ?_) (alloc_buildSlice ho hρ (elemOf_slice h3) h1 h5 h7 (beq_eq g1) (blt_lt g2) (blt_lt g3) (blt_lt g4) h11)
    rw [ho]
    show oB (evParts p (s.heap H) parts.toList) (buildSlice p (s.heap H).hp t len) = _
    rw [evParts_heap, h1, hp_heap]
    show buildSlice p H t len l = _
    unfold buildSlice
    rw [h3]
    show oB (zeroOf p e) _ = _
    rw [h5]
    show oB (sizeOf p e) _ = _
    rw [h7]
    show guardB _ _ = _
    rw [h9]
    show oM _ _ = _
    rw [h11]
    rfl

theorem xOp_reads {w : World} {r : ORes} (hcls : cls p o.op = .reads) (hH : HR p φ s.hp w) (hρ : EvR φ p s ρ o.op.operands.toList) (h : xOp p s o.op = some r) : ∃ v, r = .v v ∧ Reads φ p ρ o w v := by
  cases ho : o.op <;> rw [ho] at h hcls <;> simp only [cls] at hcls <;> simp only [xOp] at h <;> first | (cases hcls; done) | (cases h; done) | skip
  case load t x =>
    obtain ⟨v, rfl, hv⟩ := okV_some h
    exact ⟨v, rfl, read_load hH ho hρ hv⟩
  case lookup t m k ok =>
    obtain ⟨v, rfl, hv⟩ := okV_some h
    exact ⟨v, rfl, read_lookup hH ho hρ hv⟩
  case call c =>
    obtain ⟨b, l, h1, h2, h3⟩ := opCall_some h
    have hc : clsBuiltin p c.argTypes b = .reads := by
      have : (match c.callee with | .builtin b => clsBuiltin p c.argTypes b | _ => Cls.loud) = .reads := hcls
      rw [h1] at this; exact this
    cases b <;> simp only [clsBuiltin] at hc <;> first | (cases hc; done) | skip
    obtain ⟨t, h0, h1'⟩ := ty0_some (show ty0 c.argTypes _ = some r from h3)
    obtain ⟨x, rfl, h2'⟩ := arg1_some h1'
    obtain ⟨v, rfl, h3'⟩ := okV_some h2'
    obtain ⟨d, h4, h5⟩ := oB_some h3'
    obtain ⟨x', e1, hx⟩ := args1 (args_vr ho hρ h2)
    have hd : oB c.argTypes[0]? p.underlying = some d := by unfold oB; rw [h0]; exact h4
    rw [hd] at hc
    cases d <;> first | (simp [clsLen] at hc; done) | skip
    rename_i k e
    obtain ⟨v', g1, g2⟩ := len_map (ty := o.type) hH hx h0 h4 h5
    refine ⟨v, rfl, v', ?_, g2⟩
    rw [exec_builtin ho h1, e1]
    simp [Go.builtin, g1]

/-- Every operation that calls nothing. -/
theorem xOp_sound {w : World} {r : ORes} (hH : HR p φ s.hp w) (hρ : EvR φ p s ρ o.op.operands.toList) (h : xOp p s o.op = some r) : Does φ p ρ o s.hp w r := by
  cases hc : cls p o.op with
  | calm =>
    obtain ⟨v, rfl, h1⟩ := xOp_calm hc hρ h
    exact (h1.reads w).does hH
  | reads =>
    obtain ⟨v, rfl, h1⟩ := xOp_reads hc hH hρ h
    exact h1.does hH
  | allocs =>
    obtain ⟨mkA, k, -, rfl, h1⟩ := xOp_allocs hc hρ h
    exact h1.does hH
  | never =>
    cases ho : o.op <;> rw [ho] at h hc <;> simp only [cls] at hc <;> simp only [xOp] at h <;> first | (cases hc; done) | (cases h; done) | skip
    rename_i c
    obtain ⟨b, l, h1, h2, h3⟩ := opCall_some h
    exact builtin_does hH ho h1 hρ h2 h3
  | loud =>
    cases ho : o.op <;> rw [ho] at h hc <;> simp only [cls] at hc <;> simp only [xOp] at h <;> first | (cases hc; done) | (cases h; done) | skip
    case store t a x => exact does_store (H := s.hp) hH ho hρ h
    case mapUpdate t m k x => exact does_mapPut hH (.inl ho) hρ h
    case insert t m k x => exact does_mapPut hH (.inr ho) hρ h
    case convert a b x =>
      obtain ⟨v, h1, h2⟩ := oB_some (show opConv p s a b x = some r from h)
      obtain ⟨src, h3, h4⟩ := oB_some h2
      obtain ⟨dst, h5, h6⟩ := oB_some h4
      refine (conv_sound hH (hρ x (by rw [ho]; simp [Op.operands]) _ h1) h3 h5 h6).does ?_
      unfold execOp; rw [ho]
    case call c =>
      obtain ⟨b, l, h1, h2, h3⟩ := opCall_some h
      exact builtin_does hH ho h1 hρ h2 h3

end
end Go.Shadow
namespace Go.Shadow
section
variable {p : Program} {φ : Phi} {s : St}

/-! ### Frames -/
inductive DefR (φ : Phi) : (ADef ⊕ Nat) → Deferred → Prop
  | call {f g : Fn} {first cap args : List AV} {first' cap' args' : Array Value} (hf : FR φ f g) (h1 : VRs φ first first'.toList) (h2 : VRs φ cap cap'.toList) (h3 : VRs φ args args'.toList) :
      DefR φ (.inl ⟨.fn f first cap, args⟩) { target := .fn g cap', args := first' ++ args' }
  | mark {b r x : Nat} (h : φ b = some (r, x)) : DefR φ (.inr b) { target := .collected r, args := #[] }
inductive DefsR (φ : Phi) : List (ADef ⊕ Nat) → List Deferred → Prop
  | nil : DefsR φ [] []
  | cons {d : ADef ⊕ Nat} {d' : Deferred} {l : List (ADef ⊕ Nat)} {l' : List Deferred} (h : DefR φ d d') (t : DefsR φ l l') : DefsR φ (d :: l) (d' :: l')
theorem DefR.mono {ψ : Phi} (h : Phi.le φ ψ) {d : ADef ⊕ Nat} {d' : Deferred} (r : DefR φ d d') : DefR ψ d d' := by
  cases r with
  | call hf h1 h2 h3 => exact .call (hf.mono h) (h1.mono h) (h2.mono h) (h3.mono h)
  | mark e => exact .mark (h _ _ e)
theorem DefsR.mono {ψ : Phi} (h : Phi.le φ ψ) : ∀ {l : List (ADef ⊕ Nat)} {l' : List Deferred}, DefsR φ l l' → DefsR ψ l l'
  | _, _, .nil => .nil
  | _, _, .cons a t => .cons (a.mono h) (t.mono h)

structure SR (p : Program) (φ : Phi) (s : St) (a : Act) (w : World) : Prop where
  tm : TR φ s.td s.tm s.n a.tmps
  hp : HR p φ s.hp w
  df : DefsR φ s.df a.defers

theorem SR.evR {a : Act} {w : World} (h : SR p φ s a w) (l : List Operand) : EvR φ p s a.eval l := by
  intro x _ v hv
  cases x with
  | tmp t => exact h.tm.get t v (by cases s; exact hv)
  | const c => exact absOf_vr hv
  | global g =>
    obtain ⟨h1, h2⟩ := guardB_some hv
    cases h2
    obtain ⟨y, hy⟩ := h.hp.glob g (ble_le h1)
    exact .ptr 0 hy
  | func f => cases hv; exact .fn (.func f) .nil .nil

theorem SR.put {a : Act} {w : World} {d : Option Tmp} {v : AV} {v' : Value} {s' : St} (h : SR p φ s a w) (hv : VR φ v v') (hs : s.put d v = some s') : SR p φ s' (a.put d v') w ∧ s'.hp = s.hp := by
  cases d with
  | none => cases hs; exact ⟨h, rfl⟩
  | some d =>
    cases s with
    | mk td tm n hp df =>
    have hs' : (@Bool.rec (fun _ => Option St) none (some ⟨td, tm.put td d (some v), n, hp, df⟩) (Nat.ble (Nat.succ d) n)) = some s' := hs
    cases hb : Nat.ble (Nat.succ d) n with
    | false => rw [hb] at hs'; cases hs'
    | true =>
      rw [hb] at hs'
      cases hs'
      exact ⟨⟨h.tm.put (ble_le hb) hv, h.hp, h.df⟩, rfl⟩

theorem SR.step {a : Act} {w w' : World} {φ' : Phi} {H' : Heap} (h : SR p φ s a w) (hH : HR p φ' H' w') (hs : Phi.le φ φ') : SR p φ' (s.heap H') a w' := by
  cases s with
  | mk td tm n hp df => exact ⟨h.tm.mono hs, hH, h.df.mono hs⟩

theorem SR.putR {a : Act} {w : World} {d : Option Tmp} {r : ORes} {v' : Value} {w' : World} {φ' : Phi} {s' : St} (h : SR p φ s a w) (hv : VR φ' r.val v') (hH : HR p φ' (r.heap s.hp) w') (hs : Step φ s.hp w φ' (r.heap s.hp) w') (hp : putR s d r = some s') :
    SR p φ' s' (a.put d v') w' ∧ Step φ s.hp w φ' s'.hp w' := by
  cases r with
  | v x =>
    have h1 : SR p φ' s a w' := by
      have := h.step hH hs.le
      rw [show (ORes.v x).heap s.hp = s.hp from rfl, heap_self] at this
      exact this
    obtain ⟨g1, g2⟩ := h1.put hv hp
    exact ⟨g1, by rw [g2]; exact hs⟩
  | vh x H' =>
    have h1 : SR p φ' (s.heap H') a w' := h.step hH hs.le
    obtain ⟨g1, g2⟩ := h1.put hv hp
    exact ⟨g1, by rw [g2, hp_heap]; exact hs⟩

/-! ### Guards -/
theorem wanted_of {a : Act} {ops : Array Oper} {o : Oper} {b : Bool} (h : ∀ (j : Nat) (want : Bool) (o' : Oper) (t : Tmp) (v : AV), o.guard = some (j, want) → ops[j]? = some o' → o'.dst = some t → s.at t = some v → VR φ v (a.tmps.getD t undef)) (hw : wantedA ops.toList s o = some b) : Region.wanted o (yielded ops a.tmps) = b := by
  unfold wantedA at hw
  unfold Region.wanted
  cases hg : o.guard with
  | none => rw [hg] at hw; cases hw; rfl
  | some g =>
    obtain ⟨j, want⟩ := g
    rw [hg] at hw
    obtain ⟨o', h1, h2⟩ := oB_some hw
    obtain ⟨d, h3, h4⟩ := oB_some h2
    obtain ⟨v, h5, h6⟩ := oB_some h4
    rw [nth_eq] at h1
    have h1' : ops[j]? = some o' := by simpa using h1
    have hv := h j want o' d v hg h1' h3 h5
    have hy : yielded ops a.tmps j = (match a.tmps[d]? with | some (.bool b) => some b | _ => none) := by
      unfold yielded; simp [h1', h3]; rfl
    show (yielded ops a.tmps j == some want) = b
    rw [hy]
    have hd : a.tmps.getD d undef = (a.tmps[d]?).getD undef := by simp [Array.getD_eq_getD_getElem?]
    rw [hd] at hv
    cases v with
    | bool c =>
      have e := hv.bool_inv
      cases ht : a.tmps[d]? with
      | none => rw [ht] at e; cases e
      | some u =>
        rw [ht] at e
        simp only [Option.getD_some] at e
        subst e
        cases c <;> cases want <;> (cases h6; rfl)
    | any => cases h6
    | _ =>
      cases h6
      cases ht : a.tmps[d]? with
      | none => rfl
      | some u =>
        rw [ht] at hv
        simp only [Option.getD_some] at hv
        cases u <;> first | rfl | (cases hv; done)

theorem wanted_sound {a : Act} {w : World} {ops : Array Oper} {o : Oper} {b : Bool} (h : SR p φ s a w) (hw : wantedA ops.toList s o = some b) : Region.wanted o (yielded ops a.tmps) = b :=
  wanted_of (fun _ _ _ t v _ _ _ h5 => h.tm.get t v (by cases s; exact h5)) hw

/-! ### What an operation does in its frame -/
theorem defer_about {o : Oper} {w : World} {ρ : Operand → Value} {F : Fence} (hF : ∀ f, F.fn f) : ∀ f, o.about p w ρ = some f → F.fn f := fun f _ => hF f

theorem Does.wpIn {F : Fence} {n : Nat} {o : Oper} {a : Act} {w : World} {r : ORes} {s' : St} {next : Act → World → Prop} {Q : Exit → Act → World → Prop} (hF : ∀ f, F.fn f) (h : SR p φ s a w) (hd : Does φ p a.eval o s.hp w r) (hnd : ∀ c, o.op ≠ .defer c)
    (hp : putR s o.dst r = some s') (hn : ∀ φ' a' w', SR p φ' s' a' w' → Step φ s.hp w φ' s'.hp w' → next a' w') : o.wpIn F n p a w next Q := by
  obtain ⟨nx, v', w', φ', h1, h2, h3, h4, h5⟩ := hd
  obtain ⟨g1, g2⟩ := h.putR (d := o.dst) h3 h4 h5 hp
  refine ⟨defer_about hF, ?_⟩
  rw [Oper.semAt_eq F.round a.eval o hnd, h1]
  rcases h2 with rfl | ⟨rfl, rfl⟩
  · exact hn _ _ _ g1 g2
  · exact hn _ _ _ g1 g2

end
end Go.Shadow
namespace Go.Shadow
section
variable {p : Program} {φ : Phi} {s : St} {ρ : Operand → Value} {o : Oper}

/-! ### Whom a call calls -/
def TgtOk (φ : Phi) (p : Program) (w : World) (m : Sem Next) : Tgt → Prop
  | .func f args => ∃ args' : Array Value, VRs φ args args'.toList ∧ m.run p w = (callFunc f args').run p w
  | .yield l args => ∃ (args' : Array Value) (r x : Nat), φ l = some (r, x) ∧ VRs φ args args'.toList ∧ m.run p w = (Instr.yield r args').run p w
  | .plain => True
  | .recover => True

theorem info_underlying {t : TypeId} {i : TypeInfo} (h : p.info? t = some i) {w : World} : (typeInfo t).run p w = .ok i w := run_typeInfo h

theorem recvD_sound {H : Heap} {w : World} {t : TypeId} {v r : AV} {v' : Value} {ptr : Bool} {d : TypeDesc} {wrap : Option String} (hH : HR p φ H w) (hv : VR φ v v') (ht : p.underlying t = some d) (h : recvD p H v ptr d = some r) :
    ∃ r', (receiverAt t (.val v') ptr wrap).run p w = .ok r' w ∧ VR φ r r' := by
  unfold receiverAt
  simp only [Sem.run_bind, run_underlying ht, Result.andThen_ok]
  cases d with
  | pointer elem =>
    cases ptr with
    | true => cases h; exact ⟨v', rfl, hv⟩
    | false =>
      obtain ⟨b, off, rfl, h1⟩ := atPtr_some (show atPtr (loadVar p H elem) v = some r from h)
      obtain ⟨q, y, e1, rfl⟩ := hv.ptr_inv
      obtain ⟨r', e2, e3⟩ := loadVar_sound hH e1 h1
      refine ⟨r', ?_, e3⟩
      cases wrap with
      | none => simp [Place.get, asAddr, e2]
      | some name =>
        have e4 : Builtin.ssaWrapNilChk_ #[t] t #[.pointer (some ⟨q, off, none⟩), strVal "", strVal name] = pure (.pointer (some ⟨q, off, none⟩)) := rfl
        simp [Place.get, asAddr, e4, e2]
  | _ =>
    cases ptr with
    | true => cases h
    | false => cases h; exact ⟨v', rfl, hv⟩

theorem methodOf_sound {H : Heap} {w : World} {t : TypeId} {name : String} {v : AV} {v' : Value} {x : FuncId × AV} (hH : HR p φ H w) (hv : VR φ v v') (h : methodOf p H name t v = some x) (n : Nat) :
    ∃ r', (method (n + 1) t v' name).run p w = .ok (x.1, r') w ∧ VR φ x.2 r' := by
  obtain ⟨i, h1, h2⟩ := oB_some h
  obtain ⟨m, h3, h4⟩ := oB_some h2
  obtain ⟨h5, h6⟩ := guardB_some h4
  obtain ⟨f, h7, h8⟩ := oB_some h6
  obtain ⟨d, h9, h10⟩ := oB_some h8
  obtain ⟨r, h11, rfl⟩ := oM_some h10
  have hp : m.path.toList = [] := by
    have : m.path = #[] := by simpa using h5
    rw [this]
  obtain ⟨r', e1, e2⟩ := recvD_sound (wrap := if m.path.isEmpty then some ((name.splitOn ".").getLastD name) else none) hH hv h9 h11
  refine ⟨r', ?_, e2⟩
  obtain ⟨f1, f2⟩ := f
  unfold method
  simp only [Sem.run_bind, run_typeInfo h1, Result.andThen_ok, h3, hp, follow, Sem.run_pure, h7, e1]

theorem VRs.cons_inv {x : AV} {l : List AV} {a : Array Value} (h : VRs φ (x :: l) a.toList) : ∃ x', a[0]? = some x' ∧ VR φ x x' ∧ VRs φ l (a.extract 1 a.size).toList ∧ a = #[x'] ++ a.extract 1 a.size := by
  generalize e : a.toList = m at h
  cases h with
  | @cons _ x' _ l' h1 h2 =>
    have ha : a = (x' :: l').toArray := by apply Array.ext'; simpa using e
    subst ha
    refine ⟨x', by simp, h1, ?_, ?_⟩
    · simpa [List.extract_eq_take_drop] using h2
    · apply Array.ext'; simp [List.extract_eq_take_drop]

theorem ifaceTgt_sound {H : Heap} {w : World} {name : String} {args : List AV} {args' : Array Value} {tgt : Tgt} (hH : HR p φ H w) (ha : VRs φ args args'.toList) (h : ifaceTgt p H name args = some tgt) :
    ∃ recv, args'[0]? = some recv ∧ TgtOk φ p w (callMethod recv name (args'.extract 1 args'.size)) tgt := by
  unfold ifaceTgt at h
  split at h
  · rename_i t v rest
    obtain ⟨x, h1, rfl⟩ := oM_some h
    obtain ⟨x', e1, e2, e3, e4⟩ := ha.cons_inv
    obtain ⟨u, rfl, hu⟩ := e2.ifc_inv
    refine ⟨_, e1, ?_⟩
    have hd : ∃ k, p.types.size + Made.depth = k + 1 := by
      refine ⟨p.types.size + Made.depth - 1, ?_⟩
      have : 0 < Made.depth := by decide
      omega
    obtain ⟨k, hk⟩ := hd
    obtain ⟨r', g1, g2⟩ := methodOf_sound (w := w) hH hu h1 k
    refine ⟨#[r'] ++ args'.extract 1 args'.size, ?_, ?_⟩
    · simp only [Array.toList_append]
      exact .cons g2 e3
    · unfold callMethod
      simp only [Sem.run_bind, run_program, Result.andThen_ok, hk, g1]
  · cases h

theorem exprTgt_sound {H : Heap} {w : World} {t : TypeId} {name : String} {args : List AV} {args' : Array Value} {tgt : Tgt} {cap : Array Value} (hH : HR p φ H w) (ha : VRs φ args args'.toList) (h : exprTgt p H t name args = some tgt) :
    TgtOk φ p w (invoke (.fn (.methodOf t name) cap) args') tgt := by
  unfold exprTgt at h
  split at h
  · rename_i v rest
    obtain ⟨d, h1, h2⟩ := oB_some h
    obtain ⟨h3, h4⟩ := guardB_some h2
    obtain ⟨x, h5, rfl⟩ := oM_some h4
    obtain ⟨x', e1, e2, e3, e4⟩ := ha.cons_inv
    have hd : ∃ k, p.types.size + Made.depth = k + 1 := by
      refine ⟨p.types.size + Made.depth - 1, ?_⟩
      have : 0 < Made.depth := by decide
      omega
    obtain ⟨k, hk⟩ := hd
    obtain ⟨r', g1, g2⟩ := methodOf_sound (w := w) hH e2 h5 k
    refine ⟨#[r'] ++ args'.extract 1 args'.size, ?_, ?_⟩
    · simp only [Array.toList_append]
      exact .cons g2 e3
    · unfold invoke
      simp only [e1, Sem.run_bind, run_underlying h1, Result.andThen_ok]
      cases d <;> first | (cases h3; done) | (unfold callMethod; simp only [Sem.run_bind, Sem.run_pure, run_program, Result.andThen_ok, hk, g1])
  · cases h

theorem fnTgt_sound {H : Heap} {w : World} {args first cap : List AV} {args' first' cap' : Array Value} {f g : Fn} {tgt : Tgt} (hH : HR p φ H w) (hf : FR φ f g) (h1 : VRs φ first first'.toList) (h2 : VRs φ cap cap'.toList) (h3 : VRs φ args args'.toList)
    (h : fnTgt p H args first cap f = some tgt) : TgtOk φ p w (invoke (.fn g cap') (first' ++ args')) tgt := by
  have ha : VRs φ (first ++ args) (first' ++ args').toList := by rw [Array.toList_append]; exact h1.append h3
  cases hf with
  | func k =>
    cases h
    refine ⟨first' ++ args' ++ cap', ?_, rfl⟩
    rw [Array.toList_append]; exact ha.append h2
  | @yield b r x e =>
    cases h
    exact ⟨first' ++ args', r, x, e, ha, rfl⟩
  | method name =>
    obtain ⟨recv, e1, e2⟩ := ifaceTgt_sound (w := w) hH ha (show ifaceTgt p H name (first ++ args) = some tgt from h)
    have : (invoke (.fn (.method name) cap') (first' ++ args')).run p w = (callMethod recv name ((first' ++ args').extract 1 (first' ++ args').size)).run p w := by
      unfold invoke
      simp only [e1]
    cases tgt with
    | func f args => obtain ⟨a, g1, g2⟩ := e2; exact ⟨a, g1, this.trans g2⟩
    | yield l args => obtain ⟨a, r, x, g0, g1, g2⟩ := e2; exact ⟨a, r, x, g0, g1, this.trans g2⟩
    | plain => trivial
    | recover => trivial
  | methodOf t name => exact exprTgt_sound hH ha (show exprTgt p H t name (first ++ args) = some tgt from h)

theorem target_sound {w : World} {c : Call} {tgt : Tgt} (hH : HR p φ s.hp w) (ho : o.op = .call c) (hρ : EvR φ p s ρ o.op.operands.toList) (h : target p s o.op = some tgt) :
    TgtOk φ p w (execOp ρ o) tgt := by
  rw [ho] at h
  obtain ⟨args, h1, h2⟩ := oB_some (show oB (evs p s c.args.toList) (fun args => calleeTgt p s args c.callee) = some tgt from h)
  have ha := args_vr ho hρ h1
  have ht : ∀ m : Sem Next, (execOp ρ o).run p w = m.run p w → TgtOk φ p w m tgt → TgtOk φ p w (execOp ρ o) tgt := by
    intro m hm e2
    cases tgt with
    | func f args => obtain ⟨a, g1, g2⟩ := e2; exact ⟨a, g1, hm.trans g2⟩
    | yield l args => obtain ⟨a, r, x, g0, g1, g2⟩ := e2; exact ⟨a, r, x, g0, g1, hm.trans g2⟩
    | plain => trivial
    | recover => trivial
  cases hc : c.callee with
  | builtin b =>
    rw [hc] at h2
    have h2' : builtinTgt b = some tgt := h2
    cases b <;> simp only [builtinTgt] at h2' <;> first | (cases h2'; done) | (cases h2'; trivial)
  | value f =>
    rw [hc] at h2
    obtain ⟨fv, h3, h4⟩ := oB_some h2
    have hf := hρ f (by rw [ho]; simp [Op.operands, Call.operands, hc]) _ h3
    unfold valTgt at h4
    split at h4
    · rename_i g first cap
      obtain ⟨g', first', cap', e1, e2, e3, e4⟩ := hf.fn_inv
      refine ht (invoke (.fn g' cap') (first' ++ c.args.map ρ)) ?_ (fnTgt_sound hH e2 e3 e4 ha h4)
      unfold execOp; rw [ho]
      simp only [resolve, hc, e1, Deferred.ofValue, Sem.run_bind, Sem.run_pure, Result.andThen_ok]
    · cases h4
  | invoke recv name =>
    rw [hc] at h2
    obtain ⟨rv, h3, h4⟩ := oB_some h2
    have hr := hρ recv (by rw [ho]; simp [Op.operands, Call.operands, hc]) _ h3
    have ha' : VRs φ (rv :: args) (#[ρ recv] ++ c.args.map ρ).toList := by
      rw [Array.toList_append]; exact .cons hr ha
    obtain ⟨r0, e1, e2⟩ := ifaceTgt_sound (w := w) hH ha' (show ifaceTgt p s.hp name (rv :: args) = some tgt from h4)
    refine ht _ ?_ e2
    unfold execOp; rw [ho]
    simp only [resolve, hc, Sem.run_bind, Sem.run_pure, Result.andThen_ok]
    unfold invoke
    simp only [e1]

end
end Go.Shadow
namespace Go.Shadow
section
variable {p : Program} {φ : Phi} {s : St} {R : Rec} {T : Table}

def CallOk (p : Program) (f : FuncId) (args : Array Value) (w : World) (K : Value → World → Prop) : Prop :=
  (∃ v w', (callFunc f args).run p w = .ok (.value v) w' ∧ K v w') ∨
  ((callFunc f args).run p w = .ok (.enter f args) w ∧ ∀ n, CallsIn Fence.wide n p f args w (fun e w' => ∃ v, e = .returned v ∧ K v w'))
def RoundOk (p : Program) (l : Nat) (args : Array Value) (w : World) (K : Value → World → Prop) : Prop :=
  ∃ f tmps assign body, (Instr.yield l args).run p w = .ok (.round l f tmps assign body) w ∧ ∀ n, RoundIn Fence.wide n p l f tmps assign body w (fun e w' => ∃ v, e = .returned v ∧ K v w')

/-- The fence of a frame: that of a function's activation, or of a round. -/
def RdF (φ : Phi) : Option Nat → Fence → Prop
  | none, F => F = Fence.wide
  | some l, F => ∃ r x, φ l = some (r, x) ∧ F = Fence.wide.inRound r
theorem RdF.mono {ψ : Phi} (h : Phi.le φ ψ) {rd : Option Nat} {F : Fence} (hr : RdF φ rd F) : RdF ψ rd F := by
  cases rd with
  | none => exact hr
  | some l => obtain ⟨r, x, h1, h2⟩ := hr; exact ⟨r, x, h _ _ h1, h2⟩
theorem RdF.fn {rd : Option Nat} {F : Fence} (hr : RdF φ rd F) : ∀ f, F.fn f := by
  cases rd with
  | none => cases hr; exact fun _ => trivial
  | some l => obtain ⟨r, x, h1, rfl⟩ := hr; exact fun _ => trivial
theorem RdF.depth {rd : Option Nat} {F : Fence} (hr : RdF φ rd F) {q : Prop} : F.depth.isSome = true → q := by
  cases rd with
  | none => cases hr; exact fun h => by cases h
  | some l => obtain ⟨r, x, h1, rfl⟩ := hr; exact fun h => by cases h
theorem RdF.calls {rd : Option Nat} {F : Fence} (hr : RdF φ rd F) {n : Nat} {f : FuncId} {args : Array Value} {w : World} {K : Ending → World → Prop} (h : CallsIn Fence.wide n p f args w K) : CallsIn F n p f args w K := by
  cases rd with
  | none => cases hr; exact h
  | some l => obtain ⟨r, x, h1, rfl⟩ := hr; exact h
theorem RdF.rounds {rd : Option Nat} {F : Fence} (hr : RdF φ rd F) {n l : Nat} {f : FuncId} {tmps : Array Value} {assign body : Code} {w : World} {K : Ending → World → Prop} (h : RoundIn Fence.wide n p l f tmps assign body w K) : RoundIn F n p l f tmps assign body w K := by
  cases rd with
  | none => cases hr; exact h
  | some l => obtain ⟨r, x, h1, rfl⟩ := hr; exact h

def exOf : Ex → Exit
  | .normal => .normal
  | .exit id => .exit id
  | .goto l => .goto l
  | .ret => .ret
def Post (φ : Phi) (p : Program) (H : Heap) (w : World) (e : Ex) (s' : St) : Exit → Act → World → Prop := fun e' a' w' => e' = exOf e ∧ ∃ φ', SR p φ' s' a' w' ∧ Step φ H w φ' s'.hp w'
def Back (φ : Phi) (p : Program) (H : Heap) (w : World) (v : AV) (H' : Heap) : Value → World → Prop := fun v' w' => ∃ φ', VR φ' v v' ∧ HR p φ' H' w' ∧ Step φ H w φ' H' w'

structure Good (p : Program) (R : Rec) : Prop where
  code : ∀ {φ : Phi} {rd : Option Nat} {F : Fence} {c : Code} {s s' : St} {e : Ex} {a : Act} {w : World} (n : Nat), RdF φ rd F → SR p φ s a w → R.code rd c s = some (e, s') → c.wpIn F n p (Post φ p s.hp w e s') a w
  call : ∀ {φ : Phi} {f : FuncId} {args : List AV} {args' : Array Value} {H H' : Heap} {v : AV} {w : World}, HR p φ H w → VRs φ args args'.toList → R.call f args H = some (v, H') → CallOk p f args' w (Back φ p H w v H')
  round : ∀ {φ : Phi} {l r x : Nat} {args : List AV} {args' : Array Value} {H H' : Heap} {v : AV} {w : World}, φ l = some (r, x) → HR p φ H w → VRs φ args args'.toList → R.round l args H = some (v, H') → RoundOk p r args' w (Back φ p H w v H')

theorem putH_some {d : Option Tmp} {v : AV} {H : Heap} {s' : St} (h : putH s d (v, H) = some s') : putR s d (.vh v H) = some s' := h

theorem Back.next {H' : Heap} {w w' : World} {a : Act} {v : AV} {v' : Value} {d : Option Tmp} {s' : St} (h : SR p φ s a w) (hb : Back φ p s.hp w v H' v' w') (hp : putH s d (v, H') = some s') : ∃ φ', SR p φ' s' (a.put d v') w' ∧ Step φ s.hp w φ' s'.hp w' := by
  obtain ⟨φ', h1, h2, h3⟩ := hb
  exact ⟨φ', h.putR (r := .vh v H') h1 h2 h3 (putH_some hp)⟩

/-- An operation that is wanted. -/
theorem xWanted_sound (G : Good p R) {rd : Option Nat} {F : Fence} {n : Nat} {o : Oper} {s' : St} {a : Act} {w : World} {next : Act → World → Prop} {Q : Exit → Act → World → Prop} (hr : RdF φ rd F) (h : SR p φ s a w)
    (hx : xWanted p R rd o s = some s') (hn : ∀ φ' a' w', SR p φ' s' a' w' → Step φ s.hp w φ' s'.hp w' → next a' w') : o.wpIn F n p a w next Q := by
  have plain : (∀ c, o.op ≠ .defer c) → oB (xOp p s o.op) (putR s o.dst) = some s' → o.wpIn F n p a w next Q := fun hd hx => by
    obtain ⟨r, h1, h2⟩ := oB_some hx
    exact Does.wpIn hr.fn h (xOp_sound h.hp (h.evR _) h1) hd h2 hn
  cases ho : o.op
  case defer c =>
    unfold xWanted at hx
    rw [ho] at hx
    cases rd with
    | some l => cases hx
    | none =>
      have hF : F = Fence.wide := hr
      subst hF
      have hx' : (match c.callee with | .value f => deferA p s o.dst c.args f | _ => none) = some s' := hx
      cases hc : c.callee with
      | builtin b => rw [hc] at hx'; cases hx'
      | invoke r m => rw [hc] at hx'; cases hx'
      | value f =>
        rw [hc] at hx'
        obtain ⟨fv, h1, h2⟩ := oB_some hx'
        obtain ⟨hfn, h2⟩ := guardB_some h2
        obtain ⟨l, h3, h4⟩ := oB_some h2
        have hev := h.evR (p := p) o.op.operands.toList
        have hfv := hev f (by rw [ho]; simp [Op.operands, Call.operands, hc]) _ h1
        have hargs := args_vr (o := { o with op := .call c }) rfl (h.evR _) h3
        obtain ⟨g, first, cap, rfl⟩ : ∃ g first cap, fv = .fn g first cap := by cases fv <;> first | exact ⟨_, _, _, rfl⟩ | cases hfn
        obtain ⟨g', first', cap', e1, e2, e3, e4⟩ := hfv.fn_inv
        cases s with
        | mk td tm m hp df =>
        have h5 : SR p φ ⟨td, tm, m, hp, .inl ⟨.fn g first cap, l⟩ :: df⟩ { a with defers := { target := .fn g' cap', args := first' ++ c.args.map a.eval } :: a.defers } w :=
          ⟨h.tm, h.hp, .cons (.call e2 e3 e4 hargs) h.df⟩
        obtain ⟨k1, k2⟩ := h5.put (vr_undef (φ := φ)) (show St.put ⟨td, tm, m, hp, .inl ⟨.fn g first cap, l⟩ :: df⟩ o.dst .undef = some s' from h4)
        refine ⟨defer_about hr.fn, ?_⟩
        have hx2 : (o.semAt Fence.wide.round a.eval).run p w = .ok (.defer { target := .fn g' cap', args := first' ++ c.args.map a.eval }) w := by
          show (execOp a.eval o).run p w = _
          unfold execOp; rw [ho]
          simp only [resolve, hc, e1, Deferred.ofValue, Sem.run_bind, Sem.run_pure, Result.andThen_ok]
        rw [hx2]
        exact hn φ _ w k1 (by rw [k2]; exact Step.refl _ _ _)
  case call c =>
    unfold xWanted at hx
    rw [ho] at hx
    obtain ⟨tgt, h1, h2⟩ := oB_some (show oB (target p s (.call c)) (xTgt p R s o) = some s' from hx)
    have ht := target_sound (w := w) h.hp ho (h.evR _) (by rw [ho]; exact h1)
    cases tgt with
    | plain => exact plain (fun c' => by rw [ho]; simp) h2
    | recover => cases h2
    | func f args =>
      obtain ⟨⟨v, H'⟩, h3, h4⟩ := oB_some (show oB (R.call f args s.hp) (putH s o.dst) = some s' from h2)
      obtain ⟨args', e1, e2⟩ := ht
      refine ⟨defer_about hr.fn, ?_⟩
      rw [Oper.semAt_eq F.round a.eval o (fun c' => by rw [ho]; simp), e2]
      rcases G.call h.hp e1 h3 with ⟨v', w', g1, g2⟩ | ⟨g1, g2⟩
      · rw [g1]
        obtain ⟨φ', k1, k2⟩ := Back.next h g2 h4
        exact hn _ _ _ k1 k2
      · rw [g1]
        refine ⟨hr.depth, hr.calls ((g2 (n - 1)).mono ?_)⟩
        rintro e w' ⟨v', rfl, g3⟩
        obtain ⟨φ', k1, k2⟩ := Back.next h g3 h4
        exact hn _ _ _ k1 k2
    | yield l args =>
      obtain ⟨⟨v, H'⟩, h3, h4⟩ := oB_some (show oB (R.round l args s.hp) (putH s o.dst) = some s' from h2)
      obtain ⟨args', r, x, e0, e1, e2⟩ := ht
      refine ⟨defer_about hr.fn, ?_⟩
      rw [Oper.semAt_eq F.round a.eval o (fun c' => by rw [ho]; simp), e2]
      obtain ⟨f, tmps, assign, body, g1, g2⟩ := G.round e0 h.hp e1 h3
      rw [g1]
      refine ⟨hr.depth, hr.rounds ((g2 (n - 1)).mono ?_)⟩
      rintro e w' ⟨v', rfl, g3⟩
      obtain ⟨φ', k1, k2⟩ := Back.next h g3 h4
      exact hn _ _ _ k1 k2
  all_goals
    refine plain (fun c => by rw [ho]; simp) ?_
    unfold xWanted at hx
    rw [ho] at hx ⊢
    exact hx

end
end Go.Shadow
namespace Go.Shadow
section
variable {p : Program} {φ : Phi} {s : St} {R : Rec} {T : Table}

/-- An operation in its place, wanted or not. -/
theorem xOne_sound (G : Good p R) {rd : Option Nat} {F : Fence} {n : Nat} {ops : Array Oper} {o : Oper} {s' : St} {a : Act} {w : World} {next : Act → World → Prop} {Q : Exit → Act → World → Prop} (hr : RdF φ rd F) (h : SR p φ s a w)
    (hx : xOne p R rd ops.toList o s = some s') (hn : ∀ φ' a' w', SR p φ' s' a' w' → Step φ s.hp w φ' s'.hp w' → next a' w') :
    if Region.wanted o (yielded ops a.tmps) then o.wpIn F n p a w next Q else (∀ f, o.about p w a.eval = some f → F.fn f) ∧ next (a.put o.dst undef) w := by
  obtain ⟨b, h1, h2⟩ := oB_some hx
  have hb := wanted_sound h h1
  rw [hb]
  cases b with
  | true => exact xWanted_sound G hr h h2 hn
  | false =>
    obtain ⟨k1, k2⟩ := h.put (vr_undef (φ := φ)) (show s.put o.dst .undef = some s' from h2)
    exact ⟨defer_about hr.fn, hn φ _ w k1 (by rw [k2]; exact Step.refl _ _ _)⟩

theorem xOps_sound (G : Good p R) {rd : Option Nat} {F : Fence} {n : Nat} {ops : Array Oper} {s' : St} {Q : Exit → Act → World → Prop} : ∀ (l : List Oper) (i : Nat) {φ : Phi} {s : St} {a : Act} {w : World}, ops.toList.drop i = l → RdF φ rd F → SR p φ s a w →
    xOps p R rd ops.toList l s = some s' → (∀ φ' a' w', SR p φ' s' a' w' → Step φ s.hp w φ' s'.hp w' → Q .normal a' w') → wpOpsIn F n p ops Q (List.range' i l.length) a w
  | [], i, φ, s, a, w, hl, hr, h, hx, hq => by
    cases (show some s = some s' from hx)
    exact hq φ a w h (Step.refl _ _ _)
  | o :: l, i, φ, s, a, w, hl, hr, h, hx, hq => by
    obtain ⟨s1, h1, h2⟩ := oB_some (show oB (xOne p R rd ops.toList o s) (fun s => xOps p R rd ops.toList l s) = some s' from hx)
    have ho : ops[i]? = some o := by
      have : (ops.toList.drop i)[0]? = some o := by rw [hl]; rfl
      simpa using this
    have hl' : ops.toList.drop (i + 1) = l := by
      have := congrArg (List.drop 1) hl; simpa [Nat.add_comm] using this
    have := xOne_sound (n := n) (Q := Q) (next := wpOpsIn F n p ops Q (List.range' (i + 1) l.length)) G hr h h1 (fun φ' a' w' k1 k2 =>
      xOps_sound G l (i + 1) hl' (hr.mono k2.le) k1 h2 (fun φ'' a'' w'' k3 k4 => hq φ'' a'' w'' k3 (k2.trans k4)))
    simp only [List.length_cons, List.range'_succ, wpOpsIn, ho]
    exact this

/-- A region in the order of the text. -/
theorem region_sound (G : Good p R) {rd : Option Nat} {F : Fence} {n id : Nat} {ops : Array Oper} {s' : St} {a : Act} {w : World} (hr : RdF φ rd F) (h : SR p φ s a w) (hx : xOps p R rd ops.toList ops.toList s = some s') :
    (Code.region id ops false).wpIn F n p (Post φ p s.hp w .normal s') a w := by
  refine wpIn_region ?_
  have := xOps_sound (n := n) (Q := Post φ p s.hp w .normal s') G ops.toList 0 (by simp) hr h hx (fun φ' a' w' k1 k2 => ⟨rfl, φ', k1, k2⟩)
  rw [List.range_eq_range']
  simpa using this

/-! ### Control -/
theorem Post.trans {H : Heap} {w w1 : World} {s1 s' : St} {e : Ex} {φ1 : Phi} (h : Step φ H w φ1 s1.hp w1) : ∀ e' a' w', Post φ1 p s1.hp w1 e s' e' a' w' → Post φ p H w e s' e' a' w' := by
  rintro e' a' w' ⟨h1, φ', h2, h3⟩
  exact ⟨h1, φ', h2, h.trans h3⟩

theorem seq_sound (G : Good p R) {rd : Option Nat} {F : Fence} {n : Nat} {x y : Code} {s' : St} {e : Ex} {a : Act} {w : World} (hr : RdF φ rd F) (h : SR p φ s a w) (hx : oB (R.code rd x s) (seqK R rd y) = some (e, s'))
    : x.wpIn F n p (Exit.then (y.wpIn F n p (Post φ p s.hp w e s')) (Post φ p s.hp w e s')) a w := by
  obtain ⟨⟨e1, s1⟩, h1, h2⟩ := oB_some hx
  refine wpIn_mono (G.code n hr h h1) ?_
  rintro e' a' w' ⟨rfl, φ1, k1, k2⟩
  cases e1 with
  | normal =>
    show Code.wpIn F n p y _ a' w'
    exact wpIn_mono (G.code n (hr.mono k2.le) k1 (show R.code rd y s1 = some (e, s') from h2)) (Post.trans k2)
  | exit id => cases (show some (Ex.exit id, s1) = some (e, s') from h2); exact ⟨rfl, φ1, k1, k2⟩
  | goto l => cases (show some (Ex.goto l, s1) = some (e, s') from h2); exact ⟨rfl, φ1, k1, k2⟩
  | ret => cases (show some (Ex.ret, s1) = some (e, s') from h2); exact ⟨rfl, φ1, k1, k2⟩

theorem boolAt {rd : Option Nat} {c : Operand} {b : Bool} {a : Act} {w : World} (h : SR p φ s a w) (hc : ev p s c = some (.bool b)) : a.eval c = .bool b :=
  (h.evR [c] c (by simp) _ hc).bool_inv

theorem cond_sound (G : Good p R) {rd : Option Nat} {F : Fence} {n : Nat} {c : Operand} {x y : Code} {s' : St} {e : Ex} {a : Act} {w : World} (hr : RdF φ rd F) (h : SR p φ s a w) (hx : oB (ev p s c) (condK R rd x y s) = some (e, s')) :
    (Code.cond c x y).wpIn F n p (Post φ p s.hp w e s') a w := by
  obtain ⟨v, h1, h2⟩ := oB_some hx
  unfold condK at h2
  split at h2
  · exact wpIn_cond_true (boolAt (rd := rd) h h1) (G.code n hr h h2)
  · exact wpIn_cond_false (boolAt (rd := rd) h h1) (G.code n hr h h2)
  · cases h2

theorem block_sound (G : Good p R) {rd : Option Nat} {F : Fence} {n id : Nat} {c : Code} {s' : St} {e : Ex} {a : Act} {w : World} (hr : RdF φ rd F) (h : SR p φ s a w) (hx : oM (blockK id) (R.code rd c s) = some (e, s')) :
    (Code.block id c).wpIn F n p (Post φ p s.hp w e s') a w := by
  obtain ⟨⟨e1, s1⟩, h1, h2⟩ := oM_some hx
  refine wpIn_block (wpIn_mono (G.code n hr h h1) ?_)
  rintro e' a' w' ⟨rfl, φ1, k1, k2⟩
  cases e1 with
  | exit i =>
    have h2' : (match Nat.beq i id with | true => (Ex.normal, s1) | false => (Ex.exit i, s1)) = (e, s') := h2
    cases hb : Nat.beq i id with
    | true =>
      rw [hb] at h2'
      cases h2'
      have := beq_eq hb
      subst this
      show Exit.inBlock i _ (.exit i) a' w'
      simp only [Exit.inBlock, if_true]
      exact ⟨rfl, φ1, k1, k2⟩
    | false =>
      rw [hb] at h2'
      cases h2'
      have hne : ¬ i = id := fun h => by subst h; rw [Nat.beq_refl] at hb; cases hb
      show Exit.inBlock id _ (.exit i) a' w'
      simp only [Exit.inBlock, hne, if_false]
      exact ⟨rfl, φ1, k1, k2⟩
  | normal => cases (show (Ex.normal, s1) = (e, s') from h2); exact ⟨rfl, φ1, k1, k2⟩
  | goto l => cases (show (Ex.goto l, s1) = (e, s') from h2); exact ⟨rfl, φ1, k1, k2⟩
  | ret => cases (show (Ex.ret, s1) = (e, s') from h2); exact ⟨rfl, φ1, k1, k2⟩

end
end Go.Shadow
namespace Go.Shadow

section
variable {P : Program} {b : Frame} {a : Act} {k : List Item} {cs : List Frame} {w : World} {Q : Exit → Act → World → Prop} {F : Fence} {n : Nat}
theorem stepR_scope {c : Code} : Go.step P (lone (b.atR a (.code (.scope c) :: k)) cs w) = .next (lone (b.atR a (.code c :: .inScope c :: k)) cs w) :=
  step_lone_go (by simp [stepG, stepG.exec, Frame.atR])
theorem stepR_inScope {c : Code} : Go.step P (lone (b.atR a (.inScope c :: k)) cs w) = .next (lone (b.atR a k) cs w) :=
  step_lone_go (by simp [stepG, stepG.exec, Frame.atR])
/-- A scope that no goto leaves. -/
theorem wpIn_scope {c : Code} (h : c.wpIn F n P (Exit.noGoto Q) a w) : (Code.scope c).wpIn F n P Q a w := by
  intro b k cs hro hb hr
  have h0 : (lone (b.atR a (.code (.scope c) :: k)) cs w).fenced P F := fenced_calm hb hr rfl
  obtain ⟨e, a₁, w₁, hq, harr⟩ := h b (.inScope c :: k) cs hro hb hr
  cases e with
  | normal => exact ⟨.normal, a₁, w₁, hq, .head h0 stepR_scope (StepsIn.trans harr (.one (fenced_calm hb hr rfl) stepR_inScope))⟩
  | exit id =>
    have hx : exitTo id (.inScope c :: k) = exitTo id k := by simp [exitTo]
    exact ⟨.exit id, a₁, w₁, hq, fun k' hk => .head h0 stepR_scope (harr.1 k' (by rw [hx]; exact hk)),
      fun hr' hk => let ⟨k₁, h1, h2⟩ := harr.2 hr' (by rw [hx]; exact hk); ⟨k₁, h1, .head h0 stepR_scope h2⟩⟩
  | goto l => exact hq.elim
  | ret => exact ⟨_, a₁, w₁, hq, .of_steps (.one h0 stepR_scope) harr⟩
  | panic ch => exact ⟨_, a₁, w₁, hq, .of_steps (.one h0 stepR_scope) harr⟩
  | outgrown => exact ⟨_, a₁, w₁, hq, .of_steps (.one h0 stepR_scope) harr⟩
end

section
variable {p : Program} {φ : Phi} {s : St} {R : Rec} {T : Table}

theorem scope_sound (G : Good p R) {rd : Option Nat} {F : Fence} {n : Nat} {c : Code} {s' : St} {e : Ex} {a : Act} {w : World} (hr : RdF φ rd F) (h : SR p φ s a w) (hx : oB (R.code rd c s) scopeK = some (e, s')) :
    (Code.scope c).wpIn F n p (Post φ p s.hp w e s') a w := by
  obtain ⟨⟨e1, s1⟩, h1, h2⟩ := oB_some hx
  refine wpIn_scope (wpIn_mono (G.code n hr h h1) ?_)
  rintro e' a' w' ⟨rfl, φ1, k1, k2⟩
  cases e1 with
  | goto l => cases h2
  | normal => cases (show some (Ex.normal, s1) = some (e, s') from h2); exact ⟨rfl, φ1, k1, k2⟩
  | exit i => cases (show some (Ex.exit i, s1) = some (e, s') from h2); exact ⟨rfl, φ1, k1, k2⟩
  | ret => cases (show some (Ex.ret, s1) = some (e, s') from h2); exact ⟨rfl, φ1, k1, k2⟩

/-- A loop: as many rounds as the executor has gone. -/
theorem loop_sound {rd : Option Nat} {F : Fence} {n : Nat} {c : Code} {s' : St} {e : Ex} {φ0 : Phi} {H0 : Heap} {w0 : World} : ∀ (m : Nat), (∀ k, k < m → Good p (run p T k)) → ∀ {φ : Phi} {s : St} {a : Act} {w : World}, RdF φ rd F → SR p φ s a w → Step φ0 H0 w0 φ s.hp w →
    (run p T m).code rd (.loop c) s = some (e, s') → Code.roundsIn F n p c (Post φ0 p H0 w0 e s') m a w
  | 0, hG, φ, s, a, w, hr, h, hst, hx => by cases hx
  | m + 1, hG, φ, s, a, w, hr, h, hst, hx => by
    have hx' : oB ((run p T m).code rd c s) (seqK (run p T m) rd (.loop c)) = some (e, s') := hx
    obtain ⟨⟨e1, s1⟩, h1, h2⟩ := oB_some hx'
    refine wpIn_mono ((hG m (Nat.lt_succ_self m)).code n hr h h1) ?_
    rintro e' a' w' ⟨rfl, φ1, k1, k2⟩
    cases e1 with
    | normal =>
      show Code.roundsIn F n p c _ m a' w'
      exact loop_sound m (fun k hk => hG k (Nat.lt_succ_of_lt hk)) (hr.mono k2.le) k1 (hst.trans k2) (show (run p T m).code rd (.loop c) s1 = some (e, s') from h2)
    | exit id => cases (show some (Ex.exit id, s1) = some (e, s') from h2); exact ⟨rfl, φ1, k1, hst.trans k2⟩
    | goto l => cases (show some (Ex.goto l, s1) = some (e, s') from h2); exact ⟨rfl, φ1, k1, hst.trans k2⟩
    | ret => cases (show some (Ex.ret, s1) = some (e, s') from h2); exact ⟨rfl, φ1, k1, hst.trans k2⟩

end
end Go.Shadow
namespace Go.Shadow
theorem find_noEscape {fn : Func} (h : fn.name = "internal/abi.NoEscape") : Extern.find fn = some Extern.AbiNoEscape.same := by
  unfold Extern.find
  rw [h]
  rfl
theorem find_indexByte {fn : Func} (h : fn.name = "internal/bytealg.IndexByteString") : Extern.find fn = some Extern.BytealgIndexByte.indexByte := by
  unfold Extern.find
  rw [h]
  rfl
theorem find_noZero {fn : Func} (h : fn.name = "internal/bytealg.MakeNoZero") : Extern.find fn = some (Extern.BytealgMakeNoZero.makeNoZero fn.params fn.resultTypes) := by
  unfold Extern.find
  rw [h]
  rfl
theorem next_noEscape {fn : Func} (h : fn.name = "internal/abi.NoEscape") (ho : fn.origin = "" ∨ fn.origin = fn.name) : Extern.findNext fn = none := by
  unfold Extern.findNext
  rcases ho with ho | ho
  · rw [ho, h]; rfl
  · rw [ho, h]; rfl
theorem next_indexByte {fn : Func} (h : fn.name = "internal/bytealg.IndexByteString") (ho : fn.origin = "" ∨ fn.origin = fn.name) : Extern.findNext fn = none := by
  unfold Extern.findNext
  rcases ho with ho | ho
  · rw [ho, h]; rfl
  · rw [ho, h]; rfl
theorem next_noZero {fn : Func} (h : fn.name = "internal/bytealg.MakeNoZero") (ho : fn.origin = "" ∨ fn.origin = fn.name) : Extern.findNext fn = none := by
  unfold Extern.findNext
  rcases ho with ho | ho
  · rw [ho, h]; rfl
  · rw [ho, h]; rfl

theorem run_callExtern {p : Program} {w : World} {f : FuncId} {fn : Func} {e : Array Value → Sem Value} {args : Array Value} (hf : p.funcs[f]? = some fn) (hb : fn.body = none) (h1 : Extern.findNext fn = none) (h2 : Extern.find fn = some e) (h3 : (fn.name == "runtime.NumGoroutine") = false) :
    (callFunc f args).run p w = ((e args).run p w).andThen (fun v w' => .ok (.value v) w') := by
  unfold callFunc
  simp [hf, hb, h1, h2, h3]
  intro h
  rw [h] at h3
  simp at h3

section
variable {p : Program} {φ : Phi}

theorem findByte_eq (c : UInt8) : ∀ (l : List UInt8) (i : Nat), findByte c.toNat (l.map UInt8.toNat) i = (match l.findIdx? (· == c) with | some j => ((i + j : Nat) : Int) | none => -1)
  | [], i => rfl
  | b :: l, i => by
    have e2 : Nat.beq b.toNat c.toNat = (b == c) := by
      rw [Bool.eq_iff_iff]; simp [Nat.beq_eq, UInt8.toNat_inj]
    show (match Nat.beq b.toNat c.toNat with | true => (i : Int) | false => findByte c.toNat (l.map UInt8.toNat) (i + 1)) = _
    rw [e2, List.findIdx?_cons]
    cases hb : b == c with
    | true => simp
    | false =>
      simp only [Bool.false_eq_true, if_false]
      rw [findByte_eq c l (i + 1)]
      cases l.findIdx? (· == c) with
      | none => rfl
      | some j =>
        show ((i + 1 + j : Nat) : Int) = ((i + (j + 1) : Nat) : Int)
        congr 1; omega

theorem noEscape_sound {H : Heap} {w : World} {x : AV} {args' : Array Value} (hH : HR p φ H w) (ha : VRs φ [x] args'.toList) : Gives φ p H w (Extern.AbiNoEscape.same args') (.v x) := by
  obtain ⟨x', rfl, hx⟩ := args1 ha
  exact .still hH (v' := x') rfl hx

theorem digits_one : ∀ (n t : Nat) (acc : Array Value), (∀ v, v ∈ acc.toList → v.oneCell' = true) → ∀ v, v ∈ (Extern.BytealgMakeNoZero.digits n t acc).toList → v.oneCell' = true
  | 0, t, acc, h => h
  | n + 1, t, acc, h => by
    unfold Extern.BytealgMakeNoZero.digits
    refine digits_one n _ _ (fun v hv => ?_)
    rw [Array.toList_push, List.mem_append] at hv
    rcases hv with hv | hv
    · exact h v hv
    · have : v = .int .u8 (Int.ofNat (t % 256)) := by simpa using hv
      subst this; rfl
theorem anys_vr : ∀ (l : List Value), (∀ v, v ∈ l → v.oneCell' = true) → VRs φ (List.replicate l.length .any) l
  | [], _ => .nil
  | v :: l, h => by
    rw [List.length_cons, List.replicate_succ]
    refine .cons (.any ?_) (anys_vr l (fun u hu => h u (by simp [hu])))
    have := h v (by simp)
    cases v <;> first | rfl | cases this

theorem run_makeNoZero {w : World} {ps : Array TypeId} {t e : TypeId} (ht : p.underlying t = some (.slice e)) {n : Nat} (hn : n ≤ 281474976710656) :
    ∃ cs : Array Value, (Extern.BytealgMakeNoZero.makeNoZero ps #[t] #[.int .i64 n]).run p w = .ok (.slice (some ⟨w.heap.size, 0, none⟩) n cs.size) (w.drew.drew.alloc (.cells cs e)) ∧ n ≤ cs.size ∧ (∀ v, v ∈ cs.toList → v.oneCell' = true) := by
  have hdef : Extern.BytealgMakeNoZero.makeNoZero ps #[t] #[.int .i64 n] =
      (do
        let .slice elem ← underlying t | stuck "bytealg.MakeNoZero: slice type expected"
        if (n : Int) < 0 || (n : Int) > 2 ^ 48 then runtimePanic (.error "makeslice: len out of range")
        let cap ← choose (.appendCap (n : Int).toNat 0 elem)
        askRoom cap
        let bytes ← choose (.extern "internal/bytealg.MakeNoZero.bytes" 0)
        let a ← Go.newRow elem (Extern.BytealgMakeNoZero.digits cap bytes #[])
        pure (.slice (some a) (n : Int).toNat cap)) := rfl
  refine ⟨Extern.BytealgMakeNoZero.digits (grownCap w n 0 e) ((Question.extern "internal/bytealg.MakeNoZero.bytes" 0).cut (w.tape (w.drawn + 1) (.extern "internal/bytealg.MakeNoZero.bytes" 0))) #[], ?_, ?_, digits_one _ _ _ (by simp)⟩
  · rw [hdef]
    have h1 : ¬ (n : Int) < 0 := by omega
    have h2 : ¬ (281474976710656 : Int) < (n : Int) := by omega
    simp [run_underlying ht, h1, h2, Question.forced, Go.newRow, Lib.size_digits, grownCap]
  · rw [Lib.size_digits]
    simpa using grownCap_ge w n 0 e

theorem noZero_sound {H : Heap} {w : World} {x : AV} {args' : Array Value} {ps rs : Array TypeId} {r : ORes} (hH : HR p φ H w) (ha : VRs φ [x] args'.toList) (h : exNoZero p H rs x = some r) :
    Gives φ p H w (Extern.BytealgMakeNoZero.makeNoZero ps rs args') r := by
  obtain ⟨x', rfl, hx⟩ := args1 ha
  unfold exNoZero at h
  split at h
  · rename_i n
    obtain ⟨t, h1, h2⟩ := oB_some h
    obtain ⟨e, h3, h4⟩ := oB_some h2
    obtain ⟨k, h5, h6⟩ := oB_some h4
    obtain ⟨h7, h8⟩ := guardB_some h6
    cases h8
    simp only [Bool.and_eq_true] at h7
    have hk := beq_eq h7.1.1
    subst hk
    have hn := blt_lt h7.1.2
    have hrs := beq_eq h7.2
    have hrs' : rs = #[t] := by
      apply Array.ext
      · simpa using hrs
      · intro i h1' h2'
        have : i = 0 := by omega
        subst this
        have := (Array.getElem?_eq_some_iff.1 h1).2
        simpa using this
    subst hrs'
    rw [hx.int_inv]
    obtain ⟨cs, g1, g2, g3⟩ := run_makeNoZero (w := w) (ps := ps) (elemOf_slice h3) (show n ≤ 281474976710656 by omega)
    have hsplit : cs.toList = cs.toList.take n ++ cs.toList.drop n := (List.take_append_drop n cs.toList).symm
    have hlen : (cs.toList.take n).length = n := by simp; omega
    have hv : VRs φ (List.replicate n .any) (cs.toList.take n) := by
      have := anys_vr (φ := φ) (cs.toList.take n) (fun v hv => g3 v (List.mem_of_mem_take hv))
      rw [hlen] at this; exact this
    obtain ⟨k1, k2⟩ := newCells_sound (x := cs.size - n) (w := w.drew.drew) (hH.drew.drew (k := w.drawn + 1 + 1)) hsplit hv (fun m hm => by
      rw [h5] at hm; cases hm
      simp; omega)
    refine ⟨.slice (some ⟨w.heap.size, 0, none⟩) n cs.size, _, _, g1, ?_, k1, ⟨k2.le, k2.n, k2.size, k2.frame, k2.own, k2.os, k2.output, k2.tape, k2.fresh⟩⟩
    have hfin : ∀ ψ : Phi, ∀ r0, ψ H.n = some (r0, cs.size - n) → VR ψ (.sl H.n 0 n n false) (.slice (some ⟨r0, 0, none⟩) n cs.size) := by
      intro ψ r0 h0
      have := VR.slo (φ := ψ) 0 n n h0
      have e1 : n + (cs.size - n) = cs.size := by omega
      rw [e1] at this
      exact this
    exact hfin _ _ Phi.add_same
  · cases h
theorem find_range_eq (u : ByteArray) (c : UInt8) : ((List.range u.size).find? fun i => u[i]! == c) = u.data.toList.findIdx? (· == c) := by
  have hb : ∀ i (h : i < u.data.toList.length), u[i]! = u.data.toList[i] := by
    intro i h
    have h' : i < u.size := by simpa using h
    rw [getElem!_pos u i h']
    rfl
  cases hf : u.data.toList.findIdx? (· == c) with
  | none =>
    rw [List.findIdx?_eq_none_iff] at hf
    rw [List.find?_eq_none]
    intro i hi
    have hlt : i < u.data.toList.length := by simpa using hi
    rw [hb i hlt]
    simpa using hf _ (List.getElem_mem hlt)
  | some i =>
    rw [List.findIdx?_eq_some_iff_getElem] at hf
    obtain ⟨h, h1, h2⟩ := hf
    rw [List.find?_range_eq_some]
    refine ⟨by rw [hb i h]; exact h1, by simpa using h, fun j hj => ?_⟩
    rw [hb j (by omega)]
    simpa using h2 j hj

theorem indexByte_sound {H : Heap} {w : World} {x y : AV} {args' : Array Value} {r : ORes} (hH : HR p φ H w) (ha : VRs φ [x, y] args'.toList) (h : exIndexByte x y = some r) :
    Gives φ p H w (Extern.BytealgIndexByte.indexByte args') r := by
  obtain ⟨x', y', rfl, hx, hy⟩ := args2 ha
  unfold exIndexByte at h
  split at h
  · rename_i l c
    obtain ⟨h1, h2⟩ := guardB_some h
    cases h2
    have hc := blt_lt h1
    obtain ⟨u, rfl, rfl⟩ := hx.str_inv
    rw [hy.int_inv]
    have hcc : (c.toUInt8).toNat = c := by simp; omega
    refine .still hH (v' := .int .i64 (findByte c (u.data.toList.map UInt8.toNat) 0)) ?_ (.int _ _)
    refine Eq.trans (congrArg (fun c : Sem Value => c.run p w) (show Extern.BytealgIndexByte.indexByte #[.string u, .int .u8 (Int.ofNat c)] = Extern.Bytes.bytesOf (.string u) >>= (fun b => Extern.Bytes.asByte (.int .u8 (Int.ofNat c)) >>= _) from rfl)) ?_
    simp only [Extern.Bytes.bytesOf, Extern.Bytes.asByte, Sem.run_bind, Sem.run_pure, Result.andThen_ok, find_range_eq]
    have hfb := findByte_eq c.toUInt8 u.data.toList 0
    rw [hcc] at hfb
    rw [hfb]
    have e : (Int.ofNat c).toNat.toUInt8 = c.toUInt8 := rfl
    rw [e]
    cases u.data.toList.findIdx? (· == c.toUInt8) with
    | none => rfl
    | some j => simp [goInt]
  · cases h

theorem name_ne {fn : Func} {x : String} (h : fn.name = x) (hx : (x == "runtime.NumGoroutine") = false) : (fn.name == "runtime.NumGoroutine") = false := by rw [h]; exact hx

theorem Gives.callOk {H : Heap} {w : World} {f : FuncId} {fn : Func} {e : Array Value → Sem Value} {args' : Array Value} {r : ORes} (hf : p.funcs[f]? = some fn) (hb : fn.body = none) (h1 : Extern.findNext fn = none) (h2 : Extern.find fn = some e) (h3 : (fn.name == "runtime.NumGoroutine") = false)
    (h : Gives φ p H w (e args') r) : CallOk p f args' w (Back φ p H w r.val (r.heap H)) := by
  obtain ⟨v', w', φ', g1, g2, g3, g4⟩ := h
  refine .inl ⟨v', w', ?_, φ', g2, g3, g4⟩
  rw [run_callExtern hf hb h1 h2 h3, g1]; rfl

theorem extern_sound {H : Heap} {w : World} {f : FuncId} {fn : Func} {args : List AV} {args' : Array Value} {r : ORes} (hH : HR p φ H w) (ha : VRs φ args args'.toList) (hf : p.funcs[f]? = some fn) (hb : fn.body = none) (h : extern p H fn args = some r) :
    CallOk p f args' w (Back φ p H w r.val (r.heap H)) := by
  obtain ⟨ho, h1⟩ := guardB_some h
  have ho' : fn.origin = "" ∨ fn.origin = fn.name := by simpa using ho
  obtain ⟨k, h2, h3⟩ := oB_some h1
  unfold externNo at h2
  split at h2
  · rename_i hn
    cases h2
    obtain ⟨x, y, rfl, h4⟩ := arg2_some (show arg2 exIndexByte args = some r from h3)
    exact (indexByte_sound hH ha h4).callOk hf hb (next_indexByte hn ho') (find_indexByte hn) (name_ne hn (by decide))
  · rename_i hn
    cases h2
    obtain ⟨x, rfl, h4⟩ := arg1_some (show arg1 (fun x => some (.v x)) args = some r from h3)
    cases h4
    exact (noEscape_sound hH ha).callOk hf hb (next_noEscape hn ho') (find_noEscape hn) (name_ne hn (by decide))
  · rename_i hn
    cases h2
    obtain ⟨x, rfl, h4⟩ := arg1_some (show arg1 (exNoZero p H fn.resultTypes) args = some r from h3)
    exact (noZero_sound (ps := fn.params) hH ha h4).callOk hf hb (next_noZero hn ho') (find_noZero hn) (name_ne hn (by decide))
  · cases h2

end
end Go.Shadow
namespace Go.Shadow
section
variable {p : Program} {φ : Phi}

/-! ### A function's frame at its start -/
theorem argsIn_get {d : Nat} : ∀ (l : List AV) (i : Nat) (t : Tr AV) (j : Nat) (v : AV), (argsIn d l i t).get d j = some v → (∃ k, j = i + k ∧ l[k]? = some v) ∨ t.get d j = some v
  | [], i, t, j, v, h => .inr h
  | a :: l, i, t, j, v, h => by
    rcases argsIn_get l (i + 1) (t.put d i (some a)) j v h with ⟨k, rfl, hk⟩ | h1
    · exact .inl ⟨k + 1, by omega, by simpa using hk⟩
    · by_cases hj : j = i
      · subst hj
        rw [get_put_same] at h1
        cases h1
        exact .inl ⟨0, rfl, rfl⟩
      · exact .inr (get_put_ne hj h1)

theorem Tr.get_nil {α : Type} {d i : Nat} : (Tr.nil : Tr α).get d i = none := by
  unfold Tr.get; rw [find_nil]; rfl

theorem mxN_eq (a b : Nat) : mxN a b = max a b := by
  unfold mxN
  cases h : Nat.ble a b with
  | true => have := ble_le h; show b = _; omega
  | false =>
    have : ¬ a ≤ b := fun h' => by rw [Nat.ble_eq_true_of_le h'] at h; cases h
    show a = _; omega

theorem enterSt_sound {H : Heap} {w : World} {fn : Func} {args : List AV} {args' : Array Value} {s : St} (hH : HR p φ H w) (ha : VRs φ args args'.toList) (h : enterSt fn args H = some s) :
    SR p φ s { tmps := args' ++ Array.replicate (fn.ntmps - args'.size) undef, defers := [] } w ∧ s.hp = H := by
  obtain ⟨d, h1, rfl⟩ := oM_some h
  have hlen := ha.length
  simp at hlen
  refine ⟨⟨⟨?_, fun t v hv => ?_⟩, hH, .nil⟩, rfl⟩
  · show (args' ++ Array.replicate (fn.ntmps - args'.size) undef).size = mxN fn.ntmps args.length
    rw [mxN_eq, Array.size_append, Array.size_replicate]; omega
  · have hv' : (argsIn d args 0 .nil).get d t = some v := hv
    rcases argsIn_get args 0 .nil t v hv' with ⟨k, rfl, hk⟩ | h2
    · obtain ⟨v', e1, e2⟩ := ha.get hk
      have e1' : args'[k]? = some v' := by simpa using e1
      have hlt : k < args'.size := (Array.getElem?_eq_some_iff.1 e1').1
      have : (args' ++ Array.replicate (fn.ntmps - args'.size) undef).getD (0 + k) undef = v' := by
        rw [Nat.zero_add, Array.getD_eq_getD_getElem?, Array.getElem?_append_left hlt, e1']; rfl
      rw [this]; exact e2
    · rw [Tr.get_nil] at h2; cases h2

/-! ### What a function gives -/
theorem resAll_sound {s : St} {tmps : Array Value} {w : World} (h : TR φ s.td s.tm s.n tmps) (hH : HR p φ s.hp w) : ∀ (l : List ResultVar) (vs : List AV), resAll p s l = some vs →
    ∃ vs' : List Value, (l.mapM (m := Sem) fun (r : ResultVar) => match r with
      | .tmp t => pure (tmps.getD t undef)
      | .cell ad t => do Go.loadVar t (← asAddr (tmps.getD ad undef))).run p w = .ok vs' w ∧ VRs φ vs vs'
  | [], vs, hx => by cases hx; exact ⟨[], rfl, .nil⟩
  | r :: l, vs, hx => by
    obtain ⟨v, h1, h2⟩ := oB_some hx
    obtain ⟨vs0, h3, rfl⟩ := oM_some h2
    obtain ⟨vs', g1, g2⟩ := resAll_sound h hH l vs0 h3
    cases r with
    | tmp t =>
      have hv := h.get t v (by cases s; exact h1)
      exact ⟨_ :: vs', by simp only [List.mapM_cons, Sem.run_bind, Sem.run_pure, Result.andThen_ok, g1], .cons hv g2⟩
    | cell ad t =>
      obtain ⟨av, h4, h5⟩ := oB_some h1
      obtain ⟨b, off, rfl, h6⟩ := atPtr_some h5
      have hv := h.get ad _ (by cases s; exact h4)
      obtain ⟨q, y, e1, e2⟩ := hv.ptr_inv
      obtain ⟨v', e3, e4⟩ := loadVar_sound hH e1 h6
      refine ⟨v' :: vs', ?_, .cons e4 g2⟩
      have e5 : (asAddr (tmps.getD ad undef)).run p w = .ok ⟨q, off, none⟩ w := by rw [e2]; rfl
      simp only [List.mapM_cons, Sem.run_bind, e5, Sem.run_pure, Result.andThen_ok, e3, g1]

theorem results_sound {s : St} {tmps : Array Value} {w : World} {fn : Func} {v : AV} {H : Heap} (h : TR φ s.td s.tm s.n tmps) (hH : HR p φ s.hp w) (hx : resultsOf p fn s = some (v, H)) : ∃ v', (results fn tmps).run p w = .ok v' w ∧ VR φ v v' ∧ H = s.hp := by
  obtain ⟨vs, h1, h2⟩ := oM_some hx
  cases h2
  obtain ⟨vs', g1, g2⟩ := resAll_sound h hH _ _ h1
  have hm : (fn.results.mapM (m := Sem) fun (r : ResultVar) => match r with
      | .tmp t => pure (tmps.getD t undef)
      | .cell ad t => do Go.loadVar t (← asAddr (tmps.getD ad undef))).run p w = .ok vs'.toArray w := by
    rw [Array.mapM_eq_mapM_toList, Sem.run_map, g1]; rfl
  refine ⟨if h : vs'.toArray.size = 1 then vs'.toArray[0] else .tuple vs'.toArray, ?_, ?_, rfl⟩
  · unfold results
    rw [Sem.run_bind]
    refine (congrArg (fun r => Result.andThen r _) hm).trans ?_
    rfl
  · cases g2 with
    | nil => exact .tup .nil
    | cons e t =>
      cases t with
      | nil => exact e
      | cons e2 t2 => exact .tup (.cons e (.cons e2 t2))

end
end Go.Shadow
namespace Go.Shadow
section
variable {p : Program} {φ : Phi}

/-! ### A frame that leaves -/
theorem takeDefs_sound {H H' : Heap} {w : World} {b r x : Nat} (hH : HR p φ H w) (hφ : φ b = some (r, x)) (h : oB (H.get b) (takeDefs H b) = some H') :
    ∃ w', (Instr.takeDeferred r).run p w = .ok [] w' ∧ HR p φ H' w' ∧ Step φ H w φ H' w' := by
  obtain ⟨k, h1, h2⟩ := oB_some h
  unfold takeDefs at h2
  split at h2
  · cases h2
    obtain ⟨r', x', o, e1, e2, e3⟩ := hH.live b _ h1
    rw [hφ] at e1; cases e1
    cases e3
    obtain ⟨s1, s2⟩ := hH.set h1 rfl hφ (.defsF (p := p) (φ := φ) (x := x))
    refine ⟨_, ?_, s1, s2⟩
    have g1 : (getObj r).run p w = .ok (.deferred (some [])) w := by simp [getObj, Sem.run, e2]
    have g2 : (setObj r (.deferred none)).run p w = .ok () { w with heap := w.heap.setIfInBounds r (.deferred none) } := by simp [setObj, Sem.run, e2]
    unfold Instr.takeDeferred
    simp only [Sem.run_bind, g1, Result.andThen_ok, g2, Sem.run_pure]
  · cases h2

theorem isRecover_some {op : Op} (h : isRecover op = true) : ∃ c, op = .call c ∧ c.callee = .builtin .recover := by
  unfold isRecover at h
  split at h
  · rename_i c
    split at h
    · rename_i hc; exact ⟨c, rfl, hc⟩
    · cases h
  · cases h

/-- A deferred call's operations, of a frame that returns. -/
theorem xOpsS_sound {ops : Array Oper} {s' : St} {n : Nat} {Q : Exit → Act → List Frame → World → Prop} {cs : List Frame} (hcs : recoverD cs = none) : ∀ (l : List Oper) (i : Nat) {φ : Phi} {s : St} {a : Act} {w : World}, ops.toList.drop i = l → SR p φ s a w →
    xOpsS p l s = some s' → (∀ φ' a' w', SR p φ' s' a' w' → Step φ s.hp w φ' s'.hp w' → Q .normal a' cs w') → wpOpsSIn Fence.wide n p ops Q (List.range' i l.length) a cs w
  | [], i, φ, s, a, w, hl, h, hx, hq => by
    cases (show some s = some s' from hx)
    exact hq φ a w h (Step.refl _ _ _)
  | o :: l, i, φ, s, a, w, hl, h, hx, hq => by
    obtain ⟨s1, h1, h2⟩ := oB_some (show oB (xOneS p o s) (xOpsS p l) = some s' from hx)
    have ho : ops[i]? = some o := by
      have : (ops.toList.drop i)[0]? = some o := by rw [hl]; rfl
      simpa using this
    have hl' : ops.toList.drop (i + 1) = l := by
      have := congrArg (List.drop 1) hl; simpa [Nat.add_comm] using this
    have go : ∀ φ' a' w', SR p φ' s1 a' w' → Step φ s.hp w φ' s1.hp w' → wpOpsSIn Fence.wide n p ops Q (List.range' (i + 1) l.length) a' cs w' := fun φ' a' w' k1 k2 =>
      xOpsS_sound hcs l (i + 1) hl' k1 h2 (fun φ'' a'' w'' k3 k4 => hq φ'' a'' w'' k3 (k2.trans k4))
    simp only [List.length_cons, List.range'_succ, wpOpsSIn, ho]
    refine ⟨fun _ _ => trivial, ?_⟩
    unfold xOneS at h1
    cases hg : o.guard with
    | some g => rw [hg] at h1; split at h1 <;> cases h1
    | none =>
      rw [hg] at h1
      have hw : Region.wanted o (yielded ops a.tmps) = true := by unfold Region.wanted; rw [hg]
      rw [if_pos hw]
      split at h1
      · rename_i hr
        obtain ⟨c, hc, hb⟩ := isRecover_some hr
        have he : (execOp a.eval o).run p w = .ok .recover w := by
          rw [exec_builtin hc hb]; rfl
        simp only [he, hcs]
        obtain ⟨k1, k2⟩ := h.put (VR.nilif (φ := φ)) h1
        exact go φ _ w k1 (by rw [k2]; exact Step.refl _ _ _)
      · obtain ⟨r, h3, h4⟩ := oB_some h1
        obtain ⟨nx, v', w', φ', e1, e2, e3, e4, e5⟩ := xOp_sound h.hp (h.evR _) h3
        obtain ⟨k1, k2⟩ := h.putR (d := o.dst) e3 e4 e5 h4
        rcases e2 with rfl | ⟨rfl, rfl⟩
        · simp only [e1]; exact go _ _ _ k1 k2
        · simp only [e1]; exact go _ _ _ k1 k2

def PostS (φ : Phi) (p : Program) (H : Heap) (w : World) (e : Ex) (s' : St) (cs : List Frame) : Exit → Act → List Frame → World → Prop := fun e' a' cs' w' => cs' = cs ∧ Post φ p H w e s' e' a' w'

theorem xCodeS_sound {R : Rec} (G : Good p R) {n : Nat} {cs : List Frame} (hcs : recoverD cs = none) : ∀ (c : Code) {φ0 φ : Phi} {H0 : Heap} {w0 : World} {s s' : St} {e : Ex} {a : Act} {w : World}, SR p φ s a w → Step φ0 H0 w0 φ s.hp w → xCodeS p R c s = some (e, s') →
    c.wpSIn Fence.wide n p (PostS φ0 p H0 w0 e s' cs) a cs w := by
  intro c
  induction c with
  | seq x y ihx ihy =>
    intro φ0 φ H0 w0 s s' e a w h hst hx
    obtain ⟨⟨e1, s1⟩, h1, h2⟩ := oB_some (show oB (xCodeS p R x s) (seqKS (xCodeS p R y)) = some (e, s') from hx)
    refine wpSIn_seq ?_
    have := ihx h hst h1
    intro b k hb hr hF hroom
    obtain ⟨e', a', cs', w', hl, ⟨hc, hp⟩, harr⟩ := this b k hb hr hF hroom
    obtain ⟨rfl, φ1, k1, k2⟩ := hp
    subst hc
    refine ⟨exOf e1, a', cs', w', hl, ?_, harr⟩
    cases e1 with
    | normal => exact ihy k1 k2 (show xCodeS p R y s1 = some (e, s') from h2)
    | exit id => cases (show some (Ex.exit id, s1) = some (e, s') from h2); exact ⟨rfl, rfl, φ1, k1, k2⟩
    | goto l => cases (show some (Ex.goto l, s1) = some (e, s') from h2); exact ⟨rfl, rfl, φ1, k1, k2⟩
    | ret => cases (show some (Ex.ret, s1) = some (e, s') from h2); exact ⟨rfl, rfl, φ1, k1, k2⟩
  | region id ops draw =>
    intro φ0 φ H0 w0 s s' e a w h hst hx
    cases draw with
    | true =>
      refine wpSIn_of_wpIn rfl (wpIn_mono (G.code (rd := none) n rfl h (show R.code none (.region id ops true) s = some (e, s') from hx)) ?_)
      intro e' a' w' hp
      exact ⟨rfl, Post.trans hst _ _ _ hp⟩
    | false =>
      obtain ⟨s1, h1, h2⟩ := oM_some (show oM nrm (xOpsS p ops.toList s) = some (e, s') from hx)
      cases h2
      refine wpSIn_region ?_
      have := xOpsS_sound (ops := ops) (n := n) (Q := PostS φ0 p H0 w0 .normal s' cs) hcs ops.toList 0 (by simp) h h1 (fun φ' a' w' k1 k2 => ⟨rfl, rfl, φ', k1, hst.trans k2⟩)
      rw [List.range_eq_range']
      simpa using this
  | _ =>
    intro φ0 φ H0 w0 s s' e a w h hst hx
    refine wpSIn_of_wpIn rfl (wpIn_mono (G.code (rd := none) n rfl h hx) ?_)
    intro e' a' w' hp
    exact ⟨rfl, Post.trans hst _ _ _ hp⟩

end
end Go.Shadow
namespace Go.Shadow
section
variable {p : Program} {φ : Phi}

/-- No function bears the name that the machine takes for itself. -/
def NoNG (p : Program) : Prop := ∀ (f : FuncId) fn, p.funcs[f]? = some fn → (fn.name == "runtime.NumGoroutine") = false

theorem run_callFunc_body (hN : NoNG p) {f : FuncId} {fn : Func} {c : Code} {args : Array Value} {w : World} (hf : p.funcs[f]? = some fn) (hb : fn.body = some c) : (callFunc f args).run p w = .ok (.enter f args) w := by
  unfold callFunc
  have h1 := hN f fn hf
  simp only [Sem.run_bind, run_program, Result.andThen_ok, hf, h1, hb, Option.isNone_some, Bool.false_eq_true, if_false, Sem.run_pure]

theorem bodyOf_some {f : FuncId} {x : Func × Code} (h : bodyOf p f = some x) : p.funcs[f]? = some x.1 ∧ x.1.body = some x.2 := by
  obtain ⟨fn, h1, h2⟩ := oB_some h
  obtain ⟨c, h3, rfl⟩ := oM_some h2
  exact ⟨h1, h3⟩

theorem recoverD_returning {c₀ : Frame} {cs : List Frame} (h : c₀.mode = .returning) : recoverD (c₀ :: cs) = none := by
  cases c₀; cases h; rfl

/-- A deferred call of a frame that returns. -/
theorem deferred_sound {R : Rec} (G : Good p R) {n : Nat} {f : FuncId} {args : List AV} {args' : Array Value} {H H' : Heap} {w : World} (hH : HR p φ H w) (ha : VRs φ args args'.toList) (h : xDeferred p R f args H = some H') :
    CallsDIn Fence.wide n p f args' .returning w (fun e u' w' => ∃ v, e = .returned v ∧ u' = .returning ∧ ∃ φ', HR p φ' H' w' ∧ Step φ H w φ' H' w') := by
  obtain ⟨⟨fn, c⟩, h1, h2⟩ := oB_some h
  obtain ⟨s, h3, h4⟩ := oB_some h2
  obtain ⟨⟨e, s'⟩, h5, h6⟩ := oB_some h4
  obtain ⟨hf, hb⟩ := bodyOf_some h1
  obtain ⟨k1, k2⟩ := enterSt_sound hH ha h3
  refine callsDIn_of_wpSIn hf hb trivial (fun c₀ cs hu => ?_)
  have hw := xCodeS_sound G (n := n) (recoverD_returning (cs := cs) hu) c k1 (Step.refl φ s.hp w) h5
  have fin : ∀ s'' : St, noDefers p fn s'' = some H' → ∀ a' w' φ', SR p φ' s'' a' w' → Step φ s.hp w φ' s''.hp w' →
      a'.defers = [] ∧ ∃ u', (c₀ :: cs) = { c₀ with mode := u' } :: cs ∧ ∃ v, (results fn a'.tmps).run p w' = .ok v w' ∧ (∃ v', Ending.returned v = .returned v' ∧ u' = FrameMode.returning ∧ ∃ φ', HR p φ' H' w' ∧ Step φ H w φ' H' w') := by
    intro s'' hn a' w' φ' g1 g2
    unfold noDefers at hn
    split at hn
    · rename_i hdf
      obtain ⟨⟨v, H2⟩, e1, rfl⟩ := oM_some hn
      obtain ⟨v', e2, e3, e4⟩ := results_sound g1.tm g1.hp e1
      have hd := g1.df
      rw [hdf] at hd
      have : a'.defers = [] := by generalize a'.defers = l at hd; cases hd; rfl
      exact ⟨this, .returning, by rw [← hu], v', e2, v', rfl, rfl, φ', g1.hp, by rw [← k2]; exact g2⟩
    · cases hn
  intro b k hb' hr hF hroom
  obtain ⟨e', a', cs', w', hl, ⟨hc, rfl, φ', g1, g2⟩, harr⟩ := hw b k hb' hr hF hroom
  subst hc
  refine ⟨exOf e, a', c₀ :: cs, w', hl, ?_, harr⟩
  cases e with
  | normal => exact fin s' h6 a' w' φ' g1 g2
  | ret => exact fin s' h6 a' w' φ' g1 g2
  | exit id => cases h6
  | goto l => cases h6

theorem DefsR.cons_inv {d : ADef ⊕ Nat} {l : List (ADef ⊕ Nat)} {ds : List Deferred} (h : DefsR φ (d :: l) ds) : ∃ d' l', ds = d' :: l' ∧ DefR φ d d' ∧ DefsR φ l l' := by
  cases h with
  | cons h t => exact ⟨_, _, rfl, h, t⟩

/-- A frame's deferred calls, the last first; then its results. -/
theorem unwind_sound (hN : NoNG p) {R : Rec} (G : Good p R) {n : Nat} {fn : Func} {tmps : Array Value} {φ0 : Phi} {H0 H' : Heap} {w0 : World} {v : AV} : ∀ (df : List (ADef ⊕ Nat)) {φ : Phi} {s : St} {w : World} {ds : List Deferred}, TR φ s.td s.tm s.n tmps → HR p φ s.hp w → DefsR φ df ds → Step φ0 H0 w0 φ s.hp w →
    xUnwind p R fn df s = some (v, H') → LeavesInM Fence.wide n p fn tmps (fun e w' => ∃ v', e = .returned v' ∧ Back φ0 p H0 w0 v H' v' w') ds .returning w
  | [], φ, s, w, ds, ht, hH, hd, hst, hx => by
    have hds : ds = [] := by cases hd; rfl
    subst hds
    obtain ⟨v', e1, e2, e3⟩ := results_sound ht hH (show resultsOf p fn s = some (v, H') from hx)
    exact ⟨v', e1, v', rfl, φ, e2, by rw [e3]; exact hH, by rw [e3]; exact hst⟩
  | d :: df, φ, s, w, ds, ht, hH, hd, hst, hx => by
    obtain ⟨d', ds', rfl, hd1, hd2⟩ := hd.cons_inv
    obtain ⟨h, h1, h2⟩ := oB_some (show oB (xUnwind1 p R s.hp d) (fun h => xUnwind p R fn df (s.heap h)) = some (v, H') from hx)
    have next : ∀ {φ' : Phi} {w' : World}, HR p φ' h w' → Step φ s.hp w φ' h w' → LeavesInM Fence.wide n p fn tmps (fun e w' => ∃ v', e = .returned v' ∧ Back φ0 p H0 w0 v H' v' w') ds' .returning w' := by
      intro φ' w' g1 g2
      refine unwind_sound hN G df (s := s.heap h) (φ := φ') ?_ ?_ (hd2.mono g2.le) ?_ h2
      · cases s; exact ht.mono g2.le
      · rw [hp_heap]; exact g1
      · rw [hp_heap]; exact hst.trans g2
    refine ⟨(fun h => by cases h), ?_⟩
    cases hd1 with
    | mark e =>
      obtain ⟨w', g1, g2, g3⟩ := takeDefs_sound hH e h1
      exact .inl ⟨_, w', rfl, g1, next g2 g3⟩
    | @call f g first cap args first' cap' args' hf e1 e2 e3 =>
      cases f with
      | func k =>
        have h1' : xDeferred p R k (first ++ args ++ cap) s.hp = some h := h1
        cases hf with
        | func _ =>
        have ha : VRs φ (first ++ args ++ cap) ((first' ++ args') ++ cap').toList := by
          simpa using (e1.append e3).append e2
        obtain ⟨⟨fn', c'⟩, b1, _⟩ := oB_some h1'
        obtain ⟨b2, b3⟩ := bodyOf_some b1
        refine .inr ⟨fun h => (by cases h), .func k, cap', k, _, rfl, run_callFunc_body hN b2 b3, fun _ _ => trivial, (deferred_sound G hH ha h1').mono ?_⟩
        rintro e u' w' ⟨v', rfl, rfl, φ', g1, g2⟩
        exact next g1 g2
      | _ => cases h1

end
end Go.Shadow
namespace Go.Shadow
section
variable {p : Program} {φ : Phi}

/-! ### Calls -/
theorem callB_sound (hN : NoNG p) {R : Rec} (G : Good p R) {f : FuncId} {fn : Func} {args : List AV} {args' : Array Value} {H H' : Heap} {v : AV} {w : World} (hH : HR p φ H w) (ha : VRs φ args args'.toList) (hf : p.funcs[f]? = some fn)
    (h : callB p R f args H fn fn.body = some (v, H')) : CallOk p f args' w (Back φ p H w v H') := by
  cases hb : fn.body with
  | none =>
    rw [hb] at h
    obtain ⟨r, h1, h2⟩ := oM_some (show oM (pairOf H) (extern p H fn args) = some (v, H') from h)
    have := extern_sound hH ha hf hb h1
    cases r with
    | v x => cases h2; exact this
    | vh x H1 => cases h2; exact this
  | some c =>
    rw [hb] at h
    obtain ⟨s, h1, h2⟩ := oB_some (show oB (enterSt fn args H) (fun s => oB (R.code none c s) (leave p R fn)) = some (v, H') from h)
    obtain ⟨⟨e, s'⟩, h3, h4⟩ := oB_some h2
    obtain ⟨k1, k2⟩ := enterSt_sound hH ha h1
    refine .inr ⟨run_callFunc_body hN hf hb, fun n => callsIn_of_wp_marks hf hb trivial (wpIn_mono (G.code (rd := none) n rfl k1 h3) ?_)⟩
    rintro e' a' w' ⟨rfl, φ', g1, g2⟩
    rw [k2] at g2
    cases e with
    | normal => exact unwind_sound hN G s'.df g1.tm g1.hp g1.df g2 h4
    | ret => exact unwind_sound hN G s'.df g1.tm g1.hp g1.df g2 h4
    | exit id => cases h4
    | goto l => cases h4

/-- What a table of known calls must keep. -/
def TabOk (p : Program) (T : Table) : Prop := ∀ {φ : Phi} {f : FuncId} {args : List AV} {args' : Array Value} {H H' : Heap} {v : AV} {w : World}, T f args H = some (v, H') → HR p φ H w → VRs φ args args'.toList → CallOk p f args' w (Back φ p H w v H')

theorem callF_sound (hN : NoNG p) {T : Table} (hT : TabOk p T) {R : Rec} (G : Good p R) {f : FuncId} {args : List AV} {args' : Array Value} {H H' : Heap} {v : AV} {w : World} (hH : HR p φ H w) (ha : VRs φ args args'.toList)
    (h : callF p R T f args H = some (v, H')) : CallOk p f args' w (Back φ p H w v H') := by
  unfold callF at h
  cases ht : T f args H with
  | some s =>
    rw [ht] at h
    cases (show some s = some (v, H') from h)
    exact hT ht hH ha
  | none =>
    rw [ht] at h
    obtain ⟨fn, h1, h2⟩ := oB_some (show oB p.funcs[f]? (fun fn => callB p R f args H fn fn.body) = some (v, H') from h)
    exact callB_sound hN G hH ha h1 h2

/-! ### Rounds -/
theorem run_getLoop {w : World} {r : Nat} {l : Loop} (h : w.heap[r]? = some (.loop l)) : (Instr.getLoop r).run p w = .ok l w := by
  have g1 : (getObj r).run p w = .ok (.loop l) w := by simp [getObj, Sem.run, h]
  unfold Instr.getLoop
  simp only [Sem.run_bind, g1, Result.andThen_ok, Sem.run_pure]
theorem run_setLoop {w : World} {r : Nat} {o : Obj} {l : Loop} (h : w.heap[r]? = some (.loop l)) : (setObj r o).run p w = .ok () { w with heap := w.heap.setIfInBounds r o } := by
  simp [setObj, Sem.run, h]

theorem putArgs_sound {td n : Nat} : ∀ (ps : List Tmp) (args : List AV) (args' : List Value) (tm tm' : Tr AV) (tmps : Array Value), TR φ td tm n tmps → VRs φ args args' → putArgs td n ps args tm = some tm' →
    ps.length = args'.length ∧ TR φ td tm' n ((ps.zip args').foldl (fun tmps x => tmps.setIfInBounds x.1 x.2) tmps)
  | [], [], _, tm, tm', tmps, ht, ha, h => by cases ha; cases h; exact ⟨rfl, ht⟩
  | [], a :: as, _, tm, tm', tmps, ht, ha, h => by cases h
  | d :: ds, [], _, tm, tm', tmps, ht, ha, h => by cases h
  | d :: ds, a :: as, _, tm, tm', tmps, ht, .cons hv ha, h => by
    obtain ⟨h1, h2⟩ := guardB_some (show guardB (Nat.ble (Nat.succ d) n) (putArgs td n ds as (tm.put td d (some a))) = some tm' from h)
    obtain ⟨h3, h4⟩ := putArgs_sound ds as _ _ tm' _ (ht.put (ble_le h1) hv) ha h2
    exact ⟨by simp [h3], h4⟩

theorem loop_live {H : Heap} {w : World} (hH : HR p φ H w) {l r x : Nat} {k : ALoop} (hφ : φ l = some (r, x)) (hl : H.get l = some (.loop k)) :
    ∃ (o : Loop) (d' y : Nat), w.heap[r]? = some (.loop o) ∧ o.state = k.state ∧ o.pending = k.pending ∧ o.assign = k.assign ∧ o.body = k.body ∧ k.params = o.params.toList ∧ φ k.defers = some (o.defers, y) ∧ TR φ k.td k.tm k.n o.tmps := by
  obtain ⟨r', x', o, e1, e2, e3⟩ := hH.live l _ hl
  rw [hφ] at e1; cases e1
  cases e3 with
  | @loop st pe td tm n pa as bo d r y fn tmps ps ht hp hd => exact ⟨_, 0, y, e2, rfl, rfl, rfl, rfl, hp, hd, ht⟩

/-- One round. -/
theorem round_sound {R : Rec} (G : Good p R) {l r x : Nat} {args : List AV} {args' : Array Value} {H H' : Heap} {v : AV} {w : World} (hφ : φ l = some (r, x)) (hH : HR p φ H w) (ha : VRs φ args args'.toList) (h : roundF R l args H = some (v, H')) :
    RoundOk p r args' w (Back φ p H w v H') := by
  obtain ⟨k, h1, h2⟩ := oB_some h
  cases k with
  | cells c e wr => cases h2
  | map es cl wr => cases h2
  | defs b => cases h2
  | loop k =>
  obtain ⟨tm, h3, h4⟩ := oB_some (show oB (putArgs k.td k.n k.params args k.tm) (fun tm => oB (R.code (some l) k.assign ⟨k.td, tm, k.n, H, []⟩) (roundAssigned R l k.body)) = some (v, H') from h2)
  obtain ⟨⟨e1, s1⟩, h5, h6⟩ := oB_some h4
  obtain ⟨o, d', y, o1, o2, o3, o4, o5, o6, o7, o8⟩ := loop_live hH hφ h1
  obtain ⟨k1, k2⟩ := putArgs_sound _ _ _ _ _ _ o8 ha h3
  have hsz : args'.size = o.params.size := by rw [o6] at k1; simpa using k1.symm
  have hy : (Instr.yield r args').run p w = .ok (.round r o.fn ((o.params.zip args').foldl (fun tmps (t, a) => tmps.setIfInBounds t a) o.tmps) o.assign o.body) w := by
    unfold Instr.yield
    simp only [Sem.run_bind, run_getLoop o1, Result.andThen_ok, hsz, ne_eq, not_true, if_false, Sem.run_pure]
  refine ⟨_, _, _, _, hy, fun n => roundIn_of_wpIn trivial ?_⟩
  have htm : (o.params.zip args').foldl (fun tmps (t, a) => tmps.setIfInBounds t a) o.tmps = (k.params.zip args'.toList).foldl (fun tmps x => tmps.setIfInBounds x.1 x.2) o.tmps := by
    rw [← Array.foldl_toList, Array.toList_zip, o6]
  have hsr : SR p φ ⟨k.td, tm, k.n, H, []⟩ { tmps := (o.params.zip args').foldl (fun tmps (t, a) => tmps.setIfInBounds t a) o.tmps, defers := [] } w :=
    ⟨by rw [htm]; exact k2, hH, .nil⟩
  rw [o4, o5]
  refine wpIn_mono (G.code (rd := some l) n ⟨r, x, hφ, rfl⟩ hsr h5) ?_
  rintro e' a' w1 ⟨rfl, φ1, g1, g2⟩
  cases e1 with
  | exit id => cases h6
  | goto t => cases h6
  | ret => cases h6
  | normal =>
  obtain ⟨kb, h7, h8⟩ := oB_some (show oB (s1.hp.get l) (beginRound R l k.body s1) = some (v, H') from h6)
  cases kb with
  | cells c e wr => cases h8
  | map es cl wr => cases h8
  | defs b => cases h8
  | loop q =>
  have hφ1 := g2.le _ _ hφ
  obtain ⟨o', d2, y2, p1, p2, p3, p4, p5, p6, p7, p8⟩ := loop_live g1.hp hφ1 h7
  unfold beginRound at h8
  cases hst : q.state with
  | busy => simp only [hst] at h8; cases h8
  | done => simp only [hst] at h8; cases h8
  | exhausted => simp only [hst] at h8; cases h8
  | ready =>
  simp only [hst] at h8
  obtain ⟨⟨e2, s2⟩, h9, h10⟩ := oB_some h8
  have hbr : BR p φ1 x (.loop { q with state := .busy }) (.loop { o' with state := .busy }) := by
    obtain ⟨st, pe, td, tm, n, pa, as, bo, d⟩ := q
    obtain ⟨st', pe', fn', tmps', ps', as', bo', de'⟩ := o'
    simp only at p2 p3 p4 p5 p6 p7 p8
    subst p3 p4 p5
    exact .loop p8 p6 p7
  obtain ⟨s1', s2'⟩ := g1.hp.set h7 rfl hφ1 hbr
  have hbeg : (Instr.beginRound r).run p w1 = .ok () { w1 with heap := w1.heap.setIfInBounds r (.loop { o' with state := .busy }) } := by
    unfold Instr.beginRound
    simp only [Sem.run_bind, run_getLoop p1, Result.andThen_ok, run_setLoop p1, p2, hst, Sem.run_pure]
  refine ⟨_, hbeg, ?_⟩
  have g3 : SR p φ1 (s1.heap (s1.hp.set l (.loop { q with state := .busy }))) a' { w1 with heap := w1.heap.setIfInBounds r (.loop { o' with state := .busy }) } := g1.step s1' (Phi.le_refl _)
  have hst1 : Step φ H w φ1 (s1.heap (s1.hp.set l (.loop { q with state := .busy }))).hp { w1 with heap := w1.heap.setIfInBounds r (.loop { o' with state := .busy }) } := by
    rw [hp_heap]; exact g2.trans s2'
  refine wpIn_mono (G.code (rd := some l) n ⟨r, x, hφ1, rfl⟩ g3 h9) ?_
  rintro e' a2 w2 ⟨rfl, φ2, q1, q2⟩
  obtain ⟨kc, h11, h12⟩ := oB_some (show oB (s2.hp.get l) (endRound l e2 s2) = some (v, H') from h10)
  cases kc with
  | cells c e wr => cases h12
  | map es cl wr => cases h12
  | defs b => cases h12
  | loop z =>
  cases h12
  have hφ2 := q2.le _ _ hφ1
  obtain ⟨o3', d3, y3, z1, z2, z3, z4, z5, z6, z7, z8⟩ := loop_live q1.hp hφ2 h11
  have fin : ∀ j : Option Code, ∃ v' w', (Instr.endRound r j).run p w2 = .ok v' w' ∧ ∃ v'', Ending.returned v' = .returned v'' ∧ Back φ p H w (.bool j.isNone) (s2.hp.set l (.loop { z with state := stateOf j, pending := j })) v'' w' := by
    intro j
    have hbr : BR p φ2 x (.loop { z with state := stateOf j, pending := j }) (.loop { o3' with state := stateOf j, pending := j }) := by
      obtain ⟨st, pe, td, tm, n, pa, as, bo, d⟩ := z
      obtain ⟨st', pe', fn', tmps', ps', as', bo', de'⟩ := o3'
      simp only at z2 z3 z4 z5 z6 z7 z8
      subst z4 z5
      exact .loop z8 z6 z7
    obtain ⟨t1, t2⟩ := q1.hp.set h11 rfl hφ2 hbr
    refine ⟨.bool j.isNone, _, ?_, _, rfl, φ2, .bool _, t1, (hst1.trans q2).trans t2⟩
    unfold Instr.endRound
    have e : (if j.isNone = true then LoopState.ready else LoopState.done) = stateOf j := by cases j <;> rfl
    simp only [Sem.run_bind, run_getLoop z1, Result.andThen_ok, e, run_setLoop z1, Sem.run_pure]
  cases e2 with
  | normal => exact fin none
  | ret => exact fin (some .ret)
  | exit id => exact fin (some (.exit id))
  | goto t => exact fin (some (.goto t))

end
end Go.Shadow
