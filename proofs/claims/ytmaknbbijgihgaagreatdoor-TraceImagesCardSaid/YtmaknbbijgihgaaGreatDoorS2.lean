/- Proved here: a part of the shadow run: slices, operators, keys of maps, allocations, append and copy are as the model's. Conditions: those of the row Rows.traceImagesRow (its listed variables as laid); none else. -/
import Derived.Test.YtmaknbbijgihgaaGreatDoorS1
import Derived.Laws.Strings
import Derived.Laws.StructEq
set_option linter.all false
namespace Go.Shadow
section
variable {p : Program} {φ : Phi} {s : St} {ρ : Operand → Value} {o : Oper}

theorem ev?_some {x : Option Operand} {r : Option AV} (h : ev? p s x = some r) : (x = none ∧ r = none) ∨ ∃ y v, x = some y ∧ r = some v ∧ ev p s y = some v := by
  cases x with
  | none => cases h; exact .inl ⟨rfl, rfl⟩
  | some y => obtain ⟨v, h1, rfl⟩ := oM_some (show oM some (ev p s y) = some r from h); exact .inr ⟨y, v, rfl, rfl, h1⟩

theorem ev?_rel {x : Option Operand} {r : Option AV} {l : List Operand} (hρ : EvR φ p s ρ l) (hm : ∀ y, x = some y → y ∈ l) (h : ev? p s x = some r) :
    (∀ v, r = some v → ∃ v', x.map ρ = some v' ∧ VR φ v v') ∧ (r = none → x.map ρ = none) := by
  rcases ev?_some h with ⟨rfl, rfl⟩ | ⟨y, v, rfl, rfl, h1⟩
  · exact ⟨(fun v e => by cases e), fun _ => rfl⟩
  · exact ⟨(fun u e => by cases e; exact ⟨ρ y, rfl, hρ y (hm y rfl) v h1⟩), (fun e => by cases e)⟩

theorem str_extract (u : ByteArray) (b e : Nat) (h : b ≤ e) : (u.extract b e).data.toList.map UInt8.toNat = (List.take (e - b) (List.drop b (u.data.toList.map UInt8.toNat))) := by
  rw [ByteArray.data_extract, Array.toList_extract, List.extract_eq_take_drop, List.map_take, List.map_drop]

theorem offAt_eq {off l m n : Nat} : offAt off l m n = if m = l then off else off + l * n := by
  unfold offAt
  cases h : Nat.beq m l with
  | true => rw [if_pos (Nat.eq_of_beq_eq_true h)]
  | false => rw [if_neg (Nat.ne_of_beq_eq_false h)]

theorem bnd_le {hi d n : Nat} {x : Option AV} (hd : d ≤ hi) (h : bnd hi d x = some n) : n ≤ hi := by
  rcases bnd_some h with ⟨_, rfl⟩ | ⟨_, _, h⟩ <;> omega

theorem calm_slice {t : TypeId} {x : Operand} {lo hi mx : Option Operand} {v : AV} (ho : o.op = .slice t x lo hi mx) (hρ : EvR φ p s ρ o.op.operands.toList) (h : opSlice p s t x lo hi mx = some v) : Calm φ p ρ o v := by
  obtain ⟨a, h1, h2⟩ := oB_some h
  obtain ⟨lo', h3, h4⟩ := oB_some h2
  obtain ⟨hi', h5, h6⟩ := oB_some h4
  obtain ⟨mx', h7, h8⟩ := oB_some h6
  obtain ⟨hg, h8'⟩ := guardB_some h8
  obtain ⟨d, h9, h10⟩ := oB_some h8'
  have hρ' : EvR φ p s ρ ([x] ++ lo.toArray.toList ++ hi.toArray.toList ++ mx.toArray.toList) := by
    intro y hy; apply hρ y; rw [ho]; simpa [Op.operands] using hy
  have ha := hρ' x (by simp) a h1
  obtain ⟨l1, l0⟩ := ev?_rel hρ' (by intro y hy; subst hy; simp) h3
  obtain ⟨i1, i0⟩ := ev?_rel hρ' (by intro y hy; subst hy; simp) h5
  obtain ⟨m1, m0⟩ := ev?_rel hρ' (by intro y hy; subst hy; simp) h7
  have hlen : mx' = none ∨ hi'.isSome = true := by
    cases mx' with
    | none => exact .inl rfl
    | some _ => right; simpa using hg
  have hfin : ∀ w v', (Instr.sliceAt t (ρ x) (lo.map ρ) (hi.map ρ) (mx.map ρ)).run p w = .ok v' w → (execOp ρ o).run p w = .ok (.value v') w := by
    intro w v' h; unfold execOp; rw [ho]; simp [h]
  cases d with
  | string =>
    cases a with
    | str l =>
      have h11 : guardB (!mx'.isSome) (sliceStr l lo' hi') = some v := h10
      obtain ⟨h12, h13⟩ := guardB_some h11
      obtain ⟨e, h14, h15⟩ := oB_some h13
      obtain ⟨b, h16, h17⟩ := oB_some h15
      obtain ⟨r, h18, rfl⟩ := oM_some h17
      obtain ⟨rfl, hle⟩ := takeN_eq _ _ _ _ h18
      obtain rfl : mx' = none := by cases mx' <;> simp at h12 ⊢
      obtain ⟨u, g1, rfl⟩ := ha.str_inv
      have hlu : (u.data.toList.map UInt8.toNat).length = u.size := by simp
      rw [hlu] at h14
      have hbe : b ≤ e := bnd_le (Nat.zero_le _) h16
      have hb := fun w => run_sliceBounds (p := p) (φ := φ) (w := w) (isSlice := false) (len := u.size) (cap := u.size) (cap' := u.size) l1 l0 i1 i0 (mx := none) (mx' := none) (by intro v e; cases e) (fun _ => rfl) (Nat.le_refl _) (.inl rfl) rfl h14 h16
      have hmn : mx.map ρ = none := m0 rfl
      refine ⟨.string (u.extract b e), fun w => hfin w _ ?_, by rw [← str_extract u b e hbe]; exact .str _⟩
      unfold Instr.sliceAt
      simp only [Sem.run_bind, run_underlying h9, Result.andThen_ok]
      unfold Instr.slice
      simp only [Sem.run_bind, run_underlying h9, Result.andThen_ok, g1, hmn, Option.isSome_none, Bool.false_eq_true, if_false]
      simp [hb]
    | _ => cases h10
  | slice elem =>
    cases a with
    | nilsl =>
      obtain ⟨n, h11, h12⟩ := oB_some (show oB (sizeOf p elem) _ = some v from h10)
      obtain ⟨m, h13, h14⟩ := oB_some h12
      obtain ⟨e, h15, h16⟩ := oB_some h14
      obtain ⟨l, h17, h18⟩ := oB_some h16
      cases h18
      have e1 := bnd_le (Nat.le_refl _) h13
      have e2 := bnd_le (Nat.le_refl _) h15
      have e3 := bnd_le (Nat.le_refl _) h17
      obtain rfl : m = 0 := by omega
      obtain rfl : e = 0 := by omega
      obtain rfl : l = 0 := by omega
      have hb := fun w => run_sliceBounds (p := p) (φ := φ) (w := w) (isSlice := true) (len := 0) (cap := 0) (cap' := 0) l1 l0 i1 i0 m1 m0 (Nat.le_refl _) hlen h13 h15 h17
      refine ⟨.slice none 0 0, fun w => hfin w _ ?_, .nilsl⟩
      unfold Instr.sliceAt
      simp only [Sem.run_bind, run_underlying h9, Result.andThen_ok]
      unfold Instr.slice
      simp only [Sem.run_bind, run_underlying h9, Result.andThen_ok, ha.nilsl_inv, hb, run_sizeOf h11]
      simp
    | sl b off len cap ex =>
      obtain ⟨n, h11, h12⟩ := oB_some (show oB (sizeOf p elem) _ = some v from h10)
      obtain ⟨m, h13, h14⟩ := oB_some h12
      obtain ⟨e, h15, h16⟩ := oB_some h14
      obtain ⟨l, h17, h18⟩ := oB_some h16
      obtain ⟨h19, h20⟩ := guardB_some h18
      cases h20
      obtain ⟨r, y, g1, g2⟩ := ha.sl_inv
      have hcap : cap ≤ (if ex = true then cap else cap + y) := by split <;> omega
      have hb := fun w => run_sliceBounds (p := p) (φ := φ) (w := w) (isSlice := true) (len := len) (cap := cap) (cap' := if ex = true then cap else cap + y) l1 l0 i1 i0 m1 m0 hcap hlen h13 h15 h17
      have hle : l ≤ e := bnd_le (Nat.zero_le _) h17
      have hm : m ≤ cap := bnd_le (Nat.le_refl _) h13
      obtain ⟨h21, h22⟩ := (Bool.and_eq_true _ _).mp h19
      have hem := ble_le h21
      have hlm : l ≤ m := Nat.le_trans hle hem
      have hM : (if mx'.isSome = true then m else if ex = true then cap else cap + y) = if (ex || mx'.isSome) = true then m else m + y := by
        rcases bnd_some h13 with ⟨rfl, rfl⟩ | ⟨_, rfl, _⟩
        · cases ex <;> simp
        · simp
      refine ⟨.slice (some ⟨r, offAt off l m n, none⟩) (e - l) (if (ex || mx'.isSome) = true then m - l else m - l + y), fun w => hfin w _ ?_, VR.slice_of g1⟩
      unfold Instr.sliceAt
      simp only [Sem.run_bind, run_underlying h9, Result.andThen_ok]
      unfold Instr.slice
      simp only [Sem.run_bind, run_underlying h9, Result.andThen_ok, g2, hb, run_sizeOf h11, Sem.run_pure]
      rw [hM]
      have hoff : (if (if (ex || mx'.isSome) = true then m else m + y) = l then some (⟨r, off, none⟩ : Addr) else some ((⟨r, off, none⟩ : Addr).add (l * n))) = some ⟨r, offAt off l m n, none⟩ := by
        rw [offAt_eq, addr_add]
        cases hex : (ex || mx'.isSome) with
        | true => simp only [if_true]; split <;> rfl
        | false =>
          simp only [Bool.false_eq_true, if_false]
          rw [hex] at h22
          simp only [Bool.false_or, Bool.or_eq_true, Bool.not_eq_true', Nat.beq_eq_true_eq] at h22
          by_cases hl0 : l = 0
          · subst hl0; simp
          · have hne : m ≠ l := by
              rcases h22 with h | h
              · exact fun he => Nat.ne_of_beq_eq_false h he.symm
              · exact absurd (Nat.eq_of_beq_eq_true h) hl0
            rw [if_neg (by omega), if_neg hne]
      have hcp : (if (ex || mx'.isSome) = true then m else m + y) - l = if (ex || mx'.isSome) = true then m - l else m - l + y := by split <;> omega
      simp only [Option.map_some]
      rw [hoff, hcp]
    | _ => cases h10
  | array len elem =>
    cases a with
    | ptr b off =>
      obtain ⟨n, h11, h12⟩ := oB_some (show oB (sizeOf p elem) _ = some v from h10)
      obtain ⟨m, h13, h14⟩ := oB_some h12
      obtain ⟨e, h15, h16⟩ := oB_some h14
      obtain ⟨l, h17, h18⟩ := oB_some h16
      obtain ⟨h19, h20⟩ := guardB_some h18
      cases h20
      obtain ⟨r, y, g1, g2⟩ := ha.ptr_inv
      have hb := fun w => run_sliceBounds (p := p) (φ := φ) (w := w) (isSlice := false) (len := len) (cap := len) (cap' := len) l1 l0 i1 i0 m1 m0 (Nat.le_refl _) hlen h13 h15 h17
      have hM : (if mx'.isSome = true then m else len) = m := by
        rcases bnd_some h13 with ⟨rfl, rfl⟩ | ⟨_, rfl, _⟩ <;> simp
      refine ⟨.slice (some ⟨r, offAt off l m n, none⟩) (e - l) (m - l), fun w => hfin w _ ?_, by simpa using (VR.slice_of (ex := true) g1)⟩
      unfold Instr.sliceAt
      simp only [Sem.run_bind, run_underlying h9, Result.andThen_ok, g2, Instr.sureAddr, Sem.run_pure, hb, run_sizeOf h11, hM]
      rw [offAt_eq, addr_add]
      split <;> rfl
    | _ => cases h10
  | _ => cases h10
end
end Go.Shadow
namespace Go.Shadow
section
variable {p : Program} {φ : Phi} {s : St} {ρ : Operand → Value} {o : Oper}

theorem foldl_set (off : Nat) : ∀ (l : List Value) (k : Nat) (cs : Array Value), off + k + l.length ≤ cs.size →
    ((l.zipIdx k).foldl (fun cs (x : Value × Nat) => cs.setIfInBounds (off + x.2) x.1) cs).toList = cs.toList.take (off + k) ++ l ++ cs.toList.drop (off + k + l.length)
  | [], k, cs, h => by simp
  | v :: l, k, cs, h => by
    simp only [List.zipIdx_cons, List.foldl_cons, List.length_cons] at h ⊢
    rw [foldl_set off l (k + 1) (cs.setIfInBounds (off + k) v) (by simp; omega)]
    have hk : off + k < cs.toList.length := by simp; omega
    have e1 : (cs.setIfInBounds (off + k) v).toList = cs.toList.take (off + k) ++ v :: cs.toList.drop (off + k + 1) := by
      rw [Array.toList_setIfInBounds, List.set_eq_take_append_cons_drop, if_pos hk]
    have hlen : (cs.toList.take (off + k)).length = off + k := by simp; omega
    have e2 : off + (k + 1) - (off + k) = 1 := by omega
    have e3 : off + (k + 1) + l.length - (off + k) = l.length + 1 := by omega
    rw [e1, List.take_append, List.drop_append, hlen, e2, e3]
    have e4 : List.take (off + (k + 1)) (List.take (off + k) cs.toList) = List.take (off + k) cs.toList := by
      rw [List.take_take]; congr 1; omega
    have e5 : List.drop (off + (k + 1) + l.length) (List.take (off + k) cs.toList) = [] := by
      apply List.drop_eq_nil_of_le; omega
    rw [e4, e5]
    simp only [List.take_succ_cons, List.take_zero, List.drop_succ_cons, List.drop_drop, List.nil_append, List.append_assoc, List.singleton_append]
    have e6 : off + k + 1 + l.length = off + k + (l.length + 1) := by omega
    rw [e6]

theorem fill_sound {place : Nat → Option (Nat × Nat)} {placeA : Nat → Option (Nat × Nat)} (hp : ∀ i os, placeA i = some os → place i = some os) :
    ∀ (parts : List (Nat × AV)) (parts' : List (Nat × Value)) (z r : List AV) (z' : Array Value), VRs φ z z'.toList → VRs φ (parts.map (·.2)) (parts'.map (·.2)) → parts.map (·.1) = parts'.map (·.1) →
      fillA placeA z parts = some r → ∃ r', Instr.fill place z' parts' = some r' ∧ VRs φ r r'.toList := by
  intro parts
  induction parts with
  | nil =>
    intro parts' z r z' hz hv hi h
    cases parts' with
    | nil => cases h; exact ⟨z', rfl, hz⟩
    | cons a b => simp at hi
  | cons x rest ih =>
    intro parts' z r z' hz hv hi h
    cases parts' with
    | nil => simp at hi
    | cons x' rest' =>
      obtain ⟨i, v⟩ := x
      obtain ⟨i', v'⟩ := x'
      simp only [List.map_cons, List.cons.injEq] at hi
      obtain ⟨rfl, hi⟩ := hi
      cases hv with
      | cons hv1 hv2 =>
      obtain ⟨os, h1, h2⟩ := oB_some (show oB (placeA i) (fun os => oB (fillOne z v os) fun c => fillA placeA c rest) = some r from h)
      obtain ⟨c, h3, h4⟩ := oB_some h2
      obtain ⟨off, size⟩ := os
      obtain ⟨h5, h6⟩ := guardB_some h3
      obtain ⟨rfl, hle⟩ := putAt_eq _ _ _ _ h6
      have hs := Nat.eq_of_beq_eq_true h5
      simp only at hs hle hv1
      have hcl := hv1.cells.length
      have hzl := hz.length
      have hsz : v'.cells.size = size := by rw [← Array.length_toList]; omega
      have hzs : z'.size = z.length := by rw [← Array.length_toList]; omega
      let z2 : Array Value := v'.cells.zipIdx.foldl (fun cs (x : Value × Nat) => cs.setIfInBounds (off + x.2) x.1) z'
      have hz2 : z2.toList = z'.toList.take off ++ v'.cells.toList ++ z'.toList.drop (off + v'.cells.toList.length) := by
        have := foldl_set off v'.cells.toList 0 z' (by rw [← hcl]; omega)
        rw [← Array.toList_zipIdx, Array.foldl_toList] at this
        exact this
      obtain ⟨r', g1, g2⟩ := ih rest' _ r z2 (by rw [hz2, ← hcl]; exact ((hz.take off).append hv1.cells).append (hz.drop _)) hv2 hi h4
      refine ⟨r', ?_, g2⟩
      have hc : ¬ (v'.cells.size ≠ size || decide (off + v'.cells.size > z'.size)) = true := by
        simp only [Bool.or_eq_true, decide_eq_true_eq, ne_eq, gt_iff_lt, not_or]
        exact ⟨fun h => h hsz, by omega⟩
      unfold Instr.fill
      simp only [hp i _ h1]
      rw [if_neg hc]
      exact g1

theorem run_places {w : World} : ∀ (l : List Field), allSized p l = true →
    (l.mapM (m := Sem) fun f => do pure (f.offset, ← Go.sizeOf f.type)).run p w = .ok (l.map fun f => (f.offset, (sizeOf p f.type).getD 0)) w
  | [], _ => rfl
  | f :: l, h => by
    unfold allSized at h
    cases e : sizeOf p f.type with
    | none => rw [e] at h; cases h
    | some n =>
      rw [e] at h
      have ih := run_places (w := w) l h
      simp only [List.mapM_cons, Sem.run_bind, run_sizeOf e, Result.andThen_ok, Sem.run_pure, ih, List.map_cons, e, Option.getD_some]

theorem calm_build {t : TypeId} {parts : Array (Nat × Operand)} {v : AV} (ho : o.op = .build t parts) (hρ : EvR φ p s ρ o.op.operands.toList) (h : oB (evParts p s parts.toList) (build p t) = some v) : Calm φ p ρ o v := by
  obtain ⟨l, h1, h2⟩ := oB_some h
  obtain ⟨z, h3, h4⟩ := oB_some h2
  obtain ⟨zc, h5, h6⟩ := oB_some h4
  obtain ⟨d, h7, h8⟩ := oB_some h6
  have hρ' : EvR φ p s ρ (parts.toList.map (·.2)) := by
    intro y hy; apply hρ y; rw [ho]; simpa [Op.operands] using hy
  obtain ⟨g1, g2⟩ := evParts_sound hρ' h1
  obtain ⟨z', hz, hzv⟩ := zeroOf_world h3
  cases z with
  | agg cs =>
    have hzz : cs = zc := Option.some.inj h5
    subst hzz
    obtain ⟨cs', e, hcs⟩ := (hzv φ).agg_inv
    have hfin : ∀ w v', (Instr.build t (parts.map fun (i, x) => (i, ρ x))).run p w = .ok v' w → (execOp ρ o).run p w = .ok (.value v') w := by
      intro w v' h; unfold execOp; rw [ho]; simp [h]
    have hpl : (parts.map fun (i, x) => (i, ρ x)).toList = parts.toList.map fun (i, x) => (i, ρ x) := by simp
    have hzc : z'.cells = cs' := by rw [e]; rfl
    cases d with
    | struct fields =>
      obtain ⟨h9, h10⟩ := guardB_some (show guardB (allSized p fields.toList) _ = some v from h8)
      obtain ⟨r, h11, rfl⟩ := oM_some h10
      obtain ⟨r', g3, g4⟩ := fill_sound (place := ((fields.map fun f => (f.offset, (sizeOf p f.type).getD 0))[·]?)) (placeA := fieldPlace p fields) (by
        intro i os hi
        obtain ⟨f, e1, e2⟩ := oB_some hi
        obtain ⟨n, e3, rfl⟩ := oM_some e2
        simp [e1, e3]) l _ cs r cs' hcs g1 g2 h11
      refine ⟨.agg r', fun w => hfin w _ ?_, .agg g4⟩
      have hpr : (fields.mapM (m := Sem) fun f => do pure (f.offset, ← Go.sizeOf f.type)).run p w = .ok (fields.map fun f => (f.offset, (sizeOf p f.type).getD 0)) w := by
        rw [Array.mapM_eq_mapM_toList, Sem.run_map, run_places fields.toList h9, Result.andThen_ok]
        congr 1
        apply Array.ext'
        simp
      unfold Instr.build
      simp only [Sem.run_bind, hz, Result.andThen_ok, run_underlying h7, hpr, hzc, hpl, g3]
      rfl
    | array n elem =>
      obtain ⟨k, h9, h10⟩ := oB_some (show oB (sizeOf p elem) _ = some v from h8)
      obtain ⟨r, h11, rfl⟩ := oM_some h10
      obtain ⟨r', g3, g4⟩ := fill_sound (place := fun i => some (i * k, k)) (placeA := fun i => some (i * k, k)) (fun i os hi => hi) l _ cs r cs' hcs g1 g2 h11
      refine ⟨.agg r', fun w => hfin w _ ?_, .agg g4⟩
      unfold Instr.build
      simp only [Sem.run_bind, hz, Result.andThen_ok, run_underlying h7, run_sizeOf h9, hzc, hpl, g3]
      rfl
    | _ => cases h8
  | _ => cases h5
end
end Go.Shadow
namespace Go.Shadow
section
variable {p : Program} {φ : Phi} {s : St} {ρ : Operand → Value} {o : Oper}

theorem byNats_eq : ∀ (l m : List Nat), byNats l m = (l == m)
  | [], [] => rfl
  | [], b :: m => rfl
  | a :: l, [] => rfl
  | a :: l, b :: m => by
    show (@Bool.rec (fun _ => Bool) false (byNats l m) (Nat.beq a b)) = _
    cases h : Nat.beq a b with
    | true => have := Nat.eq_of_beq_eq_true h; subst this; simp [byNats_eq l m]
    | false => have := Nat.ne_of_beq_eq_false h; simp [this]
theorem natsLess_eq : ∀ (l m : List UInt8), natsLess (l.map UInt8.toNat) (m.map UInt8.toNat) = Op.bytesLess l m
  | [], [] => rfl
  | [], b :: m => rfl
  | a :: l, [] => by cases l <;> rfl
  | a :: l, b :: m => by
    simp only [List.map_cons]
    unfold natsLess Op.bytesLess
    have ih := natsLess_eq l m
    have e1 : Nat.blt a.toNat b.toNat = decide (a < b) := by
      rw [Bool.eq_iff_iff]; simp [Nat.blt_eq, UInt8.lt_iff_toNat_lt]
    have e2 : Nat.beq a.toNat b.toNat = (a == b) := by
      rw [Bool.eq_iff_iff]; simp [Nat.beq_eq, UInt8.toNat_inj]
    rw [e1, e2, ih]
    cases decide (a < b) <;> simp
theorem map_toNat_inj : ∀ {l m : List UInt8}, l.map UInt8.toNat = m.map UInt8.toNat → l = m
  | [], [], _ => rfl
  | [], b :: m, h => by simp at h
  | a :: l, [], h => by simp at h
  | a :: l, b :: m, h => by
    simp only [List.map_cons, List.cons.injEq] at h
    rw [UInt8.toNat_inj.1 h.1, map_toNat_inj h.2]
theorem map_eq (u v : ByteArray) : byNats (u.data.toList.map UInt8.toNat) (v.data.toList.map UInt8.toNat) = (u.toList == v.toList) := by
  rw [byNats_eq, ByteArray.toList_eq, ByteArray.toList_eq, Bool.eq_iff_iff]
  simp only [beq_iff_eq]
  exact ⟨map_toNat_inj, fun h => by rw [h]⟩

theorem eqGuard_body {w : World} {op : BinOp} {t : TypeId} {x y : Operand} {a b : Value} (hop : op = .eql ∨ op = .neq)
    (h : ((∃ u v, a = .agg u ∧ b = .agg v) → p.eqGuardType p.depth t = false)) (h' : ((a = .nilIface ∧ b = .nilIface) → (isConstOp x || isConstOp y) = true)) :
    (eqGuard op t x y a b).run p w = .ok () w := by
  rcases hop with rfl | rfl
  all_goals
    unfold eqGuard
    simp only [Bool.not_true, Bool.false_eq_true, if_false, pure_bind]
    split
    · have := h' ⟨rfl, rfl⟩
      cases x <;> cases y <;> simp [isConstOp] at this ⊢
    · have := h ⟨_, _, rfl, rfl⟩
      simp [this]
    · rfl
theorem eqGuard_pass {w : World} {op : BinOp} {t : TypeId} {x y : Operand} {a b : Value}
    (h : ((∃ u v, a = .agg u ∧ b = .agg v) → p.eqGuardType p.depth t = false)) (h' : ((a = .nilIface ∧ b = .nilIface) → (isConstOp x || isConstOp y) = true)) :
    (eqGuard op t x y a b).run p w = .ok () w := by
  cases op
  case eql => exact eqGuard_body (.inl rfl) h h'
  case neq => exact eqGuard_body (.inr rfl) h h'
  all_goals rfl

theorem intBin_sound {op : BinOp} {k : IntKind} {a b : Int} {t : TypeId} {v : AV} (h : intBin op k a b = some v) : ∃ v', (∀ w, (Go.binOp op t (.int k a) (.int k b)).run p w = .ok v' w) ∧ VR φ v v' := by
  have mk : ∀ v', (∀ w, (Go.binOp op t (.int k a) (.int k b)).run p w = .ok v' w) → VR φ v v' → ∃ v', (∀ w, (Go.binOp op t (.int k a) (.int k b)).run p w = .ok v' w) ∧ VR φ v v' := fun v' h1 h2 => ⟨v', h1, h2⟩
  cases op <;> simp only [intBin] at h
  case add => cases h; exact mk (.int k (k.wrap (a + b))) (fun w => by simp [Go.binOp, Op.intArith]) (by rw [wrapI_eq]; exact .int _ _)
  case sub => cases h; exact mk (.int k (k.wrap (a - b))) (fun w => by simp [Go.binOp, Op.intArith]) (by rw [wrapI_eq]; exact .int _ _)
  case mul => cases h; exact mk (.int k (k.wrap (a * b))) (fun w => by simp [Go.binOp, Op.intArith]) (by rw [wrapI_eq]; exact .int _ _)
  case eql => cases h; exact mk (.bool (a == b)) (fun w => by simp [Go.binOp, Op.intCmp]) (by rw [eqI_eq]; exact .bool _)
  case neq => cases h; exact mk (.bool (a != b)) (fun w => by simp [Go.binOp, Op.intCmp]) (by rw [eqI_eq]; exact .bool _)
  case lss => cases h; exact mk (.bool (decide (a < b))) (fun w => by simp [Go.binOp, Op.intCmp]) (by rw [ltI_eq]; exact .bool _)
  case leq => cases h; exact mk (.bool (decide (a ≤ b))) (fun w => by simp [Go.binOp, Op.intCmp]) (by rw [leI_eq]; exact .bool _)
  case gtr => cases h; exact mk (.bool (decide (a > b))) (fun w => by simp [Go.binOp, Op.intCmp]) (by rw [ltI_eq]; exact .bool _)
  case geq => cases h; exact mk (.bool (decide (a ≥ b))) (fun w => by simp [Go.binOp, Op.intCmp]) (by rw [leI_eq]; exact .bool _)
  case quo =>
    unfold divI at h
    split at h
    · cases h
    · rename_i e
      cases h
      have hb : b ≠ 0 := by rw [eqI_eq] at e; simpa using e
      exact mk (.int k (k.wrap (a.tdiv b))) (fun w => by simp [Go.binOp, Op.intDiv, hb]) (by rw [wrapI_eq]; exact .int _ _)
  case rem =>
    unfold modI at h
    split at h
    · cases h
    · rename_i e
      cases h
      have hb : b ≠ 0 := by rw [eqI_eq] at e; simpa using e
      exact mk (.int k (a.tmod b)) (fun w => by simp [Go.binOp, Op.intDiv, hb]) (.int _ _)
  all_goals cases h

theorem strBin_sound {op : BinOp} {x y : ByteArray} {t : TypeId} {v : AV}
    (h : strBin op (x.data.toList.map UInt8.toNat) (y.data.toList.map UInt8.toNat) = some v) : ∃ v', (∀ w, (Go.binOp op t (.string x) (.string y)).run p w = .ok v' w) ∧ VR φ v v' := by
  cases op <;> simp only [strBin] at h
  case add =>
    obtain ⟨hs, h⟩ := guardB_some h
    have hs' := blt_lt hs
    simp only [List.length_map, Array.length_toList] at hs'
    have e1 : x.data.size = x.size := rfl
    have e2 : y.data.size = y.size := rfl
    rw [e1, e2] at hs'
    have hm : IntKind.i64.max = 9223372036854775807 := by decide
    cases h
    refine ⟨.string (x ++ y), fun w => ?_, ?_⟩
    · simp only [Go.binOp, Op.stringOp]
      rw [if_neg (by rw [hm]; omega)]; rfl
    · have e : x.data.toList.map UInt8.toNat ++ y.data.toList.map UInt8.toNat = (x ++ y).data.toList.map UInt8.toNat := by
        rw [← List.map_append, ByteArray.data_append, Array.toList_append]
      rw [e]; exact .str _
  case eql => cases h; exact ⟨.bool (x.toList == y.toList), fun w => by simp [Go.binOp, Op.stringOp], by rw [map_eq]; exact .bool _⟩
  case neq => cases h; exact ⟨.bool !(x.toList == y.toList), fun w => by simp [Go.binOp, Op.stringOp], by rw [map_eq]; exact .bool _⟩
  case lss => cases h; exact ⟨.bool (Op.bytesLess x.toList y.toList), fun w => by simp [Go.binOp, Op.stringOp], by rw [natsLess_eq, ByteArray.toList_eq, ByteArray.toList_eq]; exact .bool _⟩
  all_goals cases h

/-! ### Equality -/
theorem boolEq_some {x y : AV} {r : Bool} (h : boolEq x y = some r) : ∃ a b, x = .bool a ∧ y = .bool b ∧ r = (a == b) := by
  unfold boolEq at h
  split at h
  · cases h; exact ⟨_, _, rfl, rfl, rfl⟩
  · cases h
theorem intEq_some {x y : AV} {r : Bool} (h : intEq x y = some r) : ∃ k a b, x = .int k a ∧ y = .int k b ∧ r = (a == b) := by
  unfold intEq at h
  split at h
  · obtain ⟨h1, h2⟩ := guardB_some h
    cases kindEq_eq h1; cases h2
    exact ⟨_, _, _, rfl, rfl, eqI_eq _ _⟩
  · cases h
theorem strEq_some {x y : AV} {r : Bool} (h : strEq x y = some r) : ∃ a b, x = .str a ∧ y = .str b ∧ r = byNats a b := by
  unfold strEq at h
  split at h
  · cases h; exact ⟨_, _, rfl, rfl, rfl⟩
  · cases h

theorem basicEqD_sound {x y : AV} {d : TypeDesc} {r : Bool} {x' y' : Value} {t : TypeId} (hx : VR φ x x') (hy : VR φ y y') (ht : p.underlying t = some d) (h : basicEqD x y d = some r) (n : Nat) (w : World) :
    (Op.equalIn (n + 1) t x' y').run p w = .ok r w := by
  cases d <;> simp only [basicEqD] at h
  case bool =>
    obtain ⟨a, b, rfl, rfl, rfl⟩ := boolEq_some h
    rw [hx.bool_inv, hy.bool_inv]; exact run_equalIn_bool' w n t a b ht
  case int k' =>
    obtain ⟨k, a, b, rfl, rfl, rfl⟩ := intEq_some h
    rw [hx.int_inv, hy.int_inv]; exact run_equalIn_int w n t k k' a b ht
  case string =>
    obtain ⟨a, b, rfl, rfl, rfl⟩ := strEq_some h
    obtain ⟨u, rfl, rfl⟩ := hx.str_inv
    obtain ⟨v, rfl, rfl⟩ := hy.str_inv
    rw [map_eq]; exact run_equalIn_string w n t u v ht
  all_goals cases h

theorem run_part_basic {w : World} {t : TypeId} {d : TypeDesc} {x y : AV} {r : Bool} (ht : p.underlying t = some d) (hd : basicEqD x y d = some r) {cs : Array Value} {off : Nat} {v : Value} (hc : cs[off]? = some v) :
    (Go.part t cs off).run p w = .ok v w := by
  have ha : isAgg p t = some false := by
    unfold isAgg oM; rw [ht]
    cases d <;> first | rfl | (simp [basicEqD] at hd; done)
  unfold Go.part
  simp [run_isAgg ha, hc]

theorem fieldsEq_sound {xs ys : Array Value} {n : Nat} {w : World} : ∀ (fs : List Field) (i : Nat) (a b : List AV) (r : Bool), VRs φ a (xs.toList.drop i) → VRs φ b (ys.toList.drop i) → fieldsEq p i fs a b = some r →
    (Op.eqFields (n + 1) xs ys fs).run p w = .ok r w
  | [], i, a, b, r, _, _, h => by unfold fieldsEq at h; cases h; simp [Op.eqFields]
  | f :: fs, i, [], b, r, _, _, h => by unfold fieldsEq at h; cases h
  | f :: fs, i, a :: l, [], r, _, _, h => by unfold fieldsEq at h; cases h
  | f :: fs, i, a :: l, b :: m, r, ha, hb, h => by
    unfold fieldsEq at h
    obtain ⟨h1, h2⟩ := guardB_some h
    obtain ⟨q, h3, h4⟩ := oB_some h2
    obtain ⟨d, h5, h6⟩ := oB_some h3
    simp only [Bool.and_eq_true, Bool.not_eq_true', beq_eq_false_iff_ne, ne_eq] at h1
    have hoff := Nat.eq_of_beq_eq_true h1.1
    generalize ex : xs.toList.drop i = xd at ha
    generalize ey : ys.toList.drop i = yd at hb
    cases ha with
    | @cons _ va _ xl ha1 ha2 =>
    cases hb with
    | @cons _ vb _ yl hb1 hb2 =>
    have gx : xs[i]? = some va := by
      have : (xs.toList.drop i)[0]? = some va := by rw [ex]; rfl
      simpa using this
    have gy : ys[i]? = some vb := by
      have : (ys.toList.drop i)[0]? = some vb := by rw [ey]; rfl
      simpa using this
    have dx : xs.toList.drop (i + 1) = xl := by
      have := congrArg (List.drop 1) ex; simpa [Nat.add_comm] using this
    have dy : ys.toList.drop (i + 1) = yl := by
      have := congrArg (List.drop 1) ey; simpa [Nat.add_comm] using this
    have hq := basicEqD_sound (p := p) ha1 hb1 h5 h6 n w
    have p1 := run_part_basic (w := w) h5 h6 (hoff ▸ gx)
    have p2 := run_part_basic (w := w) h5 h6 (hoff ▸ gy)
    unfold Op.eqFields
    rw [if_pos h1.2]
    simp only [Sem.run_bind, p1, p2, hq, Result.andThen_ok]
    cases q with
    | true =>
      have := fieldsEq_sound (n := n) (w := w) fs (i + 1) l m r (by rw [dx]; exact ha2) (by rw [dy]; exact hb2) h4
      simpa using this
    | false => cases h4; simp

theorem aggEq_sound {x y : AV} {t : TypeId} {fs : Array Field} {r : Bool} {x' y' : Value} (hx : VR φ x x') (hy : VR φ y y') (ht : p.underlying t = some (.struct fs)) (h : aggEq p t fs x y = some r) :
    (∀ n w, (Op.equalIn (n + 2) t x' y').run p w = .ok r w) ∧ p.eqGuardType p.depth t = false ∧ ∃ u v, x' = .agg u ∧ y' = .agg v := by
  unfold aggEq at h
  split at h
  · obtain ⟨h1, h2⟩ := guardB_some h
    simp only [Bool.and_eq_true, Bool.not_eq_true'] at h1
    obtain ⟨xs, rfl, hxs⟩ := hx.agg_inv
    obtain ⟨ys, rfl, hys⟩ := hy.agg_inv
    have hf : p.fieldsOf t = fs := by simp [Program.fieldsOf, ht]
    refine ⟨fun n w => ?_, h1.1, _, _, rfl, rfl⟩
    rw [run_equalIn_struct w (n + 1) t xs ys (by rw [hf]; exact ht) h1.2, hf]
    exact fieldsEq_sound fs.toList 0 _ _ r (by simpa using hxs) (by simpa using hys) h2
  · cases h

theorem ptrEq_sound {x y : AV} {e t : TypeId} {r : Bool} {x' y' : Value} (hx : VR φ x x') (hy : VR φ y y') (ht : p.underlying t = some (.pointer e)) (h : ptrEq p e x y = some r) (n : Nat) (w : World) :
    (Op.equalIn (n + 1) t x' y').run p w = .ok r w ∧ (∃ u, x' = .pointer u) ∧ (∃ u, y' = .pointer u) := by
  unfold ptrEq at h
  split at h
  · obtain ⟨m, h1, h2⟩ := oB_some h
    obtain ⟨h3, h4⟩ := guardB_some h2
    simp only [Bool.and_eq_true] at h3
    have h0 := blt_lt h3.1
    have hab := Nat.eq_of_beq_eq_true h3.2
    subst hab
    cases h4
    obtain ⟨q, z, e1, rfl⟩ := hx.ptr_inv
    obtain ⟨q', z', e2, rfl⟩ := hy.ptr_inv
    rw [e1] at e2; cases e2
    refine ⟨?_, ⟨_, rfl⟩, ⟨_, rfl⟩⟩
    have hs : ∀ o1 o2, (sameAddr ⟨q, o1, none⟩ ⟨q, o2, none⟩).run p w = .ok (Nat.beq o1 o2) w := by
      intro o1 o2
      unfold sameAddr
      simp
      rw [Bool.eq_iff_iff]; simp [Nat.beq_eq]
    simp only [Op.equalIn, Sem.run_bind, run_underlying ht, Result.andThen_ok, run_sizeOf h1]
    rw [if_pos (by omega)]
    exact hs _ _
  · cases h
    obtain ⟨q, z, e1, rfl⟩ := hx.ptr_inv
    have : y' = .pointer none := by cases hy; rfl
    subst this
    exact ⟨by simp [Op.equalIn, run_underlying ht], ⟨_, rfl⟩, ⟨_, rfl⟩⟩
  · cases h
    obtain ⟨q, z, e1, rfl⟩ := hy.ptr_inv
    have : x' = .pointer none := by cases hx; rfl
    subst this
    exact ⟨by simp [Op.equalIn, run_underlying ht], ⟨_, rfl⟩, ⟨_, rfl⟩⟩
  · cases h
    have : x' = .pointer none := by cases hx; rfl
    subst this
    have : y' = .pointer none := by cases hy; rfl
    subst this
    exact ⟨by simp [Op.equalIn, run_underlying ht], ⟨_, rfl⟩, ⟨_, rfl⟩⟩
  · cases h

theorem slEq_sound {x y : AV} {e t : TypeId} {r : Bool} {x' y' : Value} (hx : VR φ x x') (hy : VR φ y y') (ht : p.underlying t = some (.slice e)) (h : slEq x y = some r) (n : Nat) (w : World) :
    (Op.equalIn (n + 1) t x' y').run p w = .ok r w ∧ (∃ u a b, x' = .slice u a b) ∧ (∃ u a b, y' = .slice u a b) := by
  unfold slEq at h
  split at h
  · cases h
    rw [hy.nilsl_inv]
    obtain ⟨q, z, e1, rfl⟩ := hx.sl_inv
    exact ⟨by simp [Op.equalIn, run_underlying ht], ⟨_, _, _, rfl⟩, ⟨_, _, _, rfl⟩⟩
  · cases h
    rw [hx.nilsl_inv]
    obtain ⟨q, z, e1, rfl⟩ := hy.sl_inv
    exact ⟨by simp [Op.equalIn, run_underlying ht], ⟨_, _, _, rfl⟩, ⟨_, _, _, rfl⟩⟩
  · cases h
    rw [hx.nilsl_inv, hy.nilsl_inv]
    exact ⟨by simp [Op.equalIn, run_underlying ht], ⟨_, _, _, rfl⟩, ⟨_, _, _, rfl⟩⟩
  · cases h

theorem mpEq_sound {x y : AV} {k e t : TypeId} {r : Bool} {x' y' : Value} (hx : VR φ x x') (hy : VR φ y y') (ht : p.underlying t = some (.map k e)) (h : mpEq x y = some r) (n : Nat) (w : World) :
    (Op.equalIn (n + 1) t x' y').run p w = .ok r w ∧ (∃ u, x' = .map u) ∧ (∃ u, y' = .map u) := by
  unfold mpEq at h
  split at h
  · cases h
    rw [hy.nilmp_inv]
    obtain ⟨q, z, e1, rfl⟩ := hx.mp_inv
    exact ⟨by simp [Op.equalIn, run_underlying ht], ⟨_, rfl⟩, ⟨_, rfl⟩⟩
  · cases h
    rw [hx.nilmp_inv, hy.nilmp_inv]
    exact ⟨by simp [Op.equalIn, run_underlying ht], ⟨_, rfl⟩, ⟨_, rfl⟩⟩
  · cases h

theorem VR.nilfn_inv {v' : Value} (h : VR φ .nilfn v') : v' = .nilFunc := by cases h; rfl
theorem VR.nilif_inv {v' : Value} (h : VR φ .nilif v') : v' = .nilIface := by cases h; rfl
theorem VR.ifc_inv {t : TypeId} {v : AV} {v' : Value} (h : VR φ (.ifc t v) v') : ∃ u, v' = .iface t u ∧ VR φ v u := by cases h with | ifc e => exact ⟨_, rfl, e⟩
theorem VR.fn_inv {f : Fn} {a c : List AV} {v' : Value} (h : VR φ (.fn f a c) v') : ∃ g a' c', v' = .func g a' c' ∧ FR φ f g ∧ VRs φ a a'.toList ∧ VRs φ c c'.toList := by
  cases h with | fn h1 h2 h3 => exact ⟨_, _, _, rfl, h1, h2, h3⟩

theorem fnEqN_sound {x y : AV} {t : TypeId} {a b : _} {c : _} {r : Bool} {x' y' : Value} (hx : VR φ x x') (hy : VR φ y y') (ht : p.underlying t = some (.func a b c)) (h : fnEqN x y = some r) (n : Nat) (w : World) :
    (Op.equalIn (n + 1) t x' y').run p w = .ok r w ∧ (x' = .nilFunc ∨ ∃ u a b, x' = .func u a b) ∧ (y' = .nilFunc ∨ ∃ u a b, y' = .func u a b) := by
  unfold fnEqN at h
  split at h
  · cases h
    rw [hy.nilfn_inv]
    obtain ⟨g, a', c', rfl, _⟩ := hx.fn_inv
    exact ⟨by simp [Op.equalIn, run_underlying ht], .inr ⟨_, _, _, rfl⟩, .inl rfl⟩
  · cases h
    rw [hx.nilfn_inv, hy.nilfn_inv]
    exact ⟨by simp [Op.equalIn, run_underlying ht], .inl rfl, .inl rfl⟩
  · cases h

theorem ifEq_sound {x y : AV} {t : TypeId} {ms : _} {c r : Bool} {x' y' : Value} (hx : VR φ x x') (hy : VR φ y y') (ht : p.underlying t = some (.interface ms)) (h : ifEq c x y = some r) (n : Nat) (w : World) :
    (Op.equalIn (n + 1) t x' y').run p w = .ok r w ∧ ((x' = .nilIface ∧ y' = .nilIface ∧ c = true) ∨ (x' = .nilIface ∧ ∃ u v, y' = .iface u v) ∨ (y' = .nilIface ∧ ∃ u v, x' = .iface u v)) := by
  unfold ifEq at h
  split at h
  · obtain ⟨h1, h2⟩ := guardB_some h
    cases h2
    rw [hx.nilif_inv, hy.nilif_inv]
    exact ⟨by simp [Op.equalIn, run_underlying ht], .inl ⟨rfl, rfl, h1⟩⟩
  · cases h
    obtain ⟨u, rfl, _⟩ := hy.ifc_inv
    rw [hx.nilif_inv]
    exact ⟨by simp [Op.equalIn, run_underlying ht], .inr (.inl ⟨rfl, _, _, rfl⟩)⟩
  · cases h
    obtain ⟨u, rfl, _⟩ := hx.ifc_inv
    rw [hy.nilif_inv]
    exact ⟨by simp [Op.equalIn, run_underlying ht], .inr (.inr ⟨rfl, _, _, rfl⟩)⟩
  · cases h

/-- What an equation answers; neither pair of integers nor of strings. -/
theorem eqOf_sound {x y : AV} {t : TypeId} {c r : Bool} {x' y' : Value} (hx : VR φ x x') (hy : VR φ y y') (h : eqOf p c t x y = some r) :
    (∀ w, (Go.binOp .eql t x' y').run p w = .ok (.bool r) w) ∧ (∀ w, (Go.binOp .neq t x' y').run p w = .ok (.bool !r) w) ∧
      ((∃ u v, x' = .agg u ∧ y' = .agg v) → p.eqGuardType p.depth t = false) ∧ ((x' = .nilIface ∧ y' = .nilIface) → c = true) := by
  obtain ⟨d, ht, hd⟩ := oB_some h
  have fin : (∀ w, (Op.equalIn 10000 t x' y').run p w = .ok r w) → (Go.binOp .eql t x' y' = (do pure (.bool (← Op.equal t x' y')))) → (Go.binOp .neq t x' y' = (do pure (.bool (!(← Op.equal t x' y'))))) →
      (∀ w, (Go.binOp .eql t x' y').run p w = .ok (.bool r) w) ∧ (∀ w, (Go.binOp .neq t x' y').run p w = .ok (.bool !r) w) := by
    intro h1 h2 h3
    refine ⟨fun w => ?_, fun w => ?_⟩
    · rw [h2]; simp [Op.equal, Op.maxDepth, h1 w]
    · rw [h3]; simp [Op.equal, Op.maxDepth, h1 w]
  cases d <;> simp only [eqD] at hd
  case bool =>
    have e := fun n w => basicEqD_sound (p := p) hx hy ht (show basicEqD x y .bool = some r from hd) n w
    obtain ⟨a, b, rfl, rfl, rfl⟩ := boolEq_some hd
    have e1 := hx.bool_inv
    have e2 := hy.bool_inv
    subst e1; subst e2
    have := fin (fun w => e 9999 w) rfl rfl
    exact ⟨this.1, this.2, by simp, by simp⟩
  case pointer el =>
    have e := fun n w => ptrEq_sound (p := p) hx hy ht hd n w
    obtain ⟨-, ⟨u, rfl⟩, ⟨v, rfl⟩⟩ := e 0 default
    have := fin (fun w => (e 9999 w).1) rfl rfl
    exact ⟨this.1, this.2, by simp, by simp⟩
  case slice el =>
    have e := fun n w => slEq_sound (p := p) hx hy ht hd n w
    obtain ⟨-, ⟨u, a, b, rfl⟩, ⟨v, a', b', rfl⟩⟩ := e 0 default
    have := fin (fun w => (e 9999 w).1) rfl rfl
    exact ⟨this.1, this.2, by simp, by simp⟩
  case map k el =>
    have e := fun n w => mpEq_sound (p := p) hx hy ht hd n w
    obtain ⟨-, ⟨u, rfl⟩, ⟨v, rfl⟩⟩ := e 0 default
    have := fin (fun w => (e 9999 w).1) rfl rfl
    exact ⟨this.1, this.2, by simp, by simp⟩
  case func a b c' =>
    have e := fun n w => fnEqN_sound (p := p) hx hy ht hd n w
    obtain ⟨-, h1, h2⟩ := e 0 default
    rcases h1 with rfl | ⟨_, _, _, rfl⟩ <;> rcases h2 with rfl | ⟨_, _, _, rfl⟩ <;>
      exact ⟨(fin (fun w => (e 9999 w).1) rfl rfl).1, (fin (fun w => (e 9999 w).1) rfl rfl).2, by simp, by simp⟩
  case interface ms =>
    have e := fun n w => ifEq_sound (p := p) hx hy ht hd n w
    obtain ⟨-, h1⟩ := e 0 default
    rcases h1 with ⟨rfl, rfl, hc⟩ | ⟨rfl, _, _, rfl⟩ | ⟨rfl, _, _, rfl⟩
    · exact ⟨(fin (fun w => (e 9999 w).1) rfl rfl).1, (fin (fun w => (e 9999 w).1) rfl rfl).2, by simp, fun _ => hc⟩
    · exact ⟨(fin (fun w => (e 9999 w).1) rfl rfl).1, (fin (fun w => (e 9999 w).1) rfl rfl).2, by simp, by simp⟩
    · exact ⟨(fin (fun w => (e 9999 w).1) rfl rfl).1, (fin (fun w => (e 9999 w).1) rfl rfl).2, by simp, by simp⟩
  case struct fs =>
    obtain ⟨e, hg, u, v, rfl, rfl⟩ := aggEq_sound (p := p) hx hy ht hd
    have := fin (fun w => e 9998 w) rfl rfl
    exact ⟨this.1, this.2, fun _ => hg, by simp⟩
  all_goals cases hd

theorem eqBin_sound {x y : AV} {t : TypeId} {c : Bool} {op : BinOp} {v : AV} {x' y' : Value} (hx : VR φ x x') (hy : VR φ y y') (h : eqBin p c t op x y = some v) :
    (∃ v', (∀ w, (Go.binOp op t x' y').run p w = .ok v' w) ∧ VR φ v v') ∧ ((∃ u v, x' = .agg u ∧ y' = .agg v) → p.eqGuardType p.depth t = false) ∧ ((x' = .nilIface ∧ y' = .nilIface) → c = true) := by
  unfold eqBin at h
  split at h
  · obtain ⟨r, h1, rfl⟩ := oM_some h
    obtain ⟨e1, e2, e3, e4⟩ := eqOf_sound hx hy h1
    exact ⟨⟨_, e1, .bool _⟩, e3, e4⟩
  · obtain ⟨r, h1, rfl⟩ := oM_some h
    obtain ⟨e1, e2, e3, e4⟩ := eqOf_sound hx hy h1
    exact ⟨⟨_, e2, .bool _⟩, e3, e4⟩
  · cases h

theorem binOp_sound {x y : AV} {t : TypeId} {c : Bool} {op : BinOp} {v : AV} {x' y' : Value} (hx : VR φ x x') (hy : VR φ y y') (h : binOp p c t op x y = some v) :
    (∃ v', (∀ w, (Go.binOp op t x' y').run p w = .ok v' w) ∧ VR φ v v') ∧ ((∃ u v, x' = .agg u ∧ y' = .agg v) → p.eqGuardType p.depth t = false) ∧ ((x' = .nilIface ∧ y' = .nilIface) → c = true) := by
  unfold binOp at h
  split at h
  · obtain ⟨h1, h2⟩ := guardB_some h
    cases kindEq_eq h1
    rw [hx.int_inv, hy.int_inv]
    exact ⟨intBin_sound h2, by simp, by simp⟩
  · obtain ⟨a, rfl, rfl⟩ := hx.str_inv
    obtain ⟨b, rfl, rfl⟩ := hy.str_inv
    exact ⟨strBin_sound h, by simp, by simp⟩
  · exact eqBin_sound hx hy h

theorem calm_binOp {op : BinOp} {t : TypeId} {x y : Operand} {z : _} {v : AV} (ho : o.op = .binOp op t x y z) (hρ : EvR φ p s ρ o.op.operands.toList)
    (h : oB (ev p s x) (fun a => oB (ev p s y) (binOp p (isConstOp x || isConstOp y) t op a)) = some v) : Calm φ p ρ o v := by
  obtain ⟨a, h1, h2⟩ := oB_some h
  obtain ⟨b, h3, h4⟩ := oB_some h2
  have ha := hρ x (by rw [ho]; simp [Op.operands]) a h1
  have hb := hρ y (by rw [ho]; simp [Op.operands]) b h3
  obtain ⟨⟨v', e1, e2⟩, e3, e4⟩ := binOp_sound ha hb h4
  refine ⟨v', fun w => ?_, e2⟩
  unfold execOp; rw [ho]
  simp only [Sem.run_bind, eqGuard_pass e3 e4, Result.andThen_ok, e1 w]
  rfl

end
end Go.Shadow
namespace Go.Shadow
section
variable {p : Program} {φ : Phi} {s : St} {ρ : Operand → Value} {o : Oper}

/-! ### Keys of maps -/
inductive FoundR (φ : Phi) : Option (Nat × AV) → Option (Nat × Value) → Prop
  | none : FoundR φ none none
  | some {i : Nat} {v : AV} {v' : Value} (h : VR φ v v') : FoundR φ (some (i, v)) (some (i, v'))

def isStruct : TypeDesc → Bool | .struct _ => true | _ => false

theorem keyEqD_equal {x y : AV} {t : TypeId} {d : TypeDesc} {r : Bool} {x' y' : Value} (hx : VR φ x x') (hy : VR φ y y') (ht : p.underlying t = some d) (h : keyEqD p t x y d = some r) (w : World) :
    (Op.equal t x' y').run p w = .ok r w := by
  unfold Op.equal Op.maxDepth
  cases d <;> simp only [keyEqD] at h
  case struct fs => exact (aggEq_sound hx hy ht h).1 9998 w
  all_goals exact basicEqD_sound hx hy ht h 9999 w

theorem keyEqD_now {x y : AV} {t : TypeId} {d : TypeDesc} {r : Bool} {x' y' : Value} (hx : VR φ x x') (hy : VR φ y y') (hd : isStruct d = false) (h : keyEqD p t x y d = some r) : Instr.sameNow d x' y' = some r := by
  cases d <;> simp only [keyEqD, basicEqD] at h
  case struct fs => cases hd
  case bool =>
    obtain ⟨a, b, rfl, rfl, rfl⟩ := boolEq_some h
    rw [hx.bool_inv, hy.bool_inv]; rfl
  case int k' =>
    obtain ⟨k, a, b, rfl, rfl, rfl⟩ := intEq_some h
    rw [hx.int_inv, hy.int_inv]; simp [Instr.sameNow]
  case string =>
    obtain ⟨a, b, rfl, rfl, rfl⟩ := strEq_some h
    obtain ⟨u, rfl, rfl⟩ := hx.str_inv
    obtain ⟨v, rfl, rfl⟩ := hy.str_inv
    rw [map_eq, ← beq_toListBytes]; rfl
  all_goals cases h

theorem findNow_sound {t : TypeId} {d : TypeDesc} {k : AV} {k' : Value} (hd : isStruct d = false) (hk : VR φ k k') : ∀ {es : List (AV × AV × Nat)} {es' : List MapEntry} {i : Nat} {r : Option (Nat × AV)},
    ERs φ es es' → findKey p t d k es i = some r → ∃ r', Instr.findNow d k' es' i = some r' ∧ FoundR φ r r'
  | _, _, i, r, .nil, h => by cases h; exact ⟨none, rfl, .none⟩
  | _, _, i, r, .cons (.mk (k := ek) (v := ev) hek hev) ht, h => by
    obtain ⟨q, h1, h2⟩ := oB_some h
    have hs := keyEqD_now hk hek hd h1
    unfold Instr.findNow
    cases q with
    | true => cases h2; exact ⟨_, by simp only [hs], .some hev⟩
    | false =>
      obtain ⟨r', e1, e2⟩ := findNow_sound hd hk ht h2
      exact ⟨r', by simp only [hs]; exact e1, e2⟩

theorem findAsking_sound {t : TypeId} {d : TypeDesc} {k : AV} {k' : Value} (ht : p.underlying t = some d) (hk : VR φ k k') : ∀ {es : List (AV × AV × Nat)} {es' : List MapEntry} {i : Nat} {r : Option (Nat × AV)},
    ERs φ es es' → findKey p t d k es i = some r → ∃ r', (∀ w, (Instr.findAsking t k' es' i).run p w = .ok r' w) ∧ FoundR φ r r'
  | _, _, i, r, .nil, h => by cases h; exact ⟨none, fun w => rfl, .none⟩
  | _, _, i, r, .cons (.mk (k := ek) (v := ev) hek hev) hes, h => by
    obtain ⟨q, h1, h2⟩ := oB_some h
    have hs := fun w => keyEqD_equal hk hek ht h1 w
    cases q with
    | true => cases h2; exact ⟨_, fun w => by unfold Instr.findAsking; simp [hs w], .some hev⟩
    | false =>
      obtain ⟨r', e1, e2⟩ := findAsking_sound ht hk hes h2
      exact ⟨r', fun w => by unfold Instr.findAsking; simp [hs w, e1 w], e2⟩

theorem findKey_sound {t : TypeId} {d : TypeDesc} {k : AV} {k' : Value} (ht : p.underlying t = some d) (hk : VR φ k k') {es : List (AV × AV × Nat)} {es' : List MapEntry} {r : Option (Nat × AV)}
    (he : ERs φ es es') (h : findKey p t d k es 0 = some r) : ∃ r', (∀ w, (Instr.findKey t k' es').run p w = .ok r' w) ∧ FoundR φ r r' := by
  cases hd : isStruct d with
  | false =>
    obtain ⟨r', e1, e2⟩ := findNow_sound hd hk he h
    exact ⟨r', fun w => by unfold Instr.findKey; simp [run_underlying ht, e1], e2⟩
  | true =>
    obtain ⟨r', e1, e2⟩ := findAsking_sound ht hk he h
    cases d <;> first | (cases hd; done) | skip
    rename_i fs
    cases he with
    | nil => cases h; exact ⟨none, fun w => by unfold Instr.findKey; simp [run_underlying ht, Instr.findNow], .none⟩
    | @cons e e' l l' x y =>
      refine ⟨r', fun w => ?_, e2⟩
      unfold Instr.findKey
      simp [run_underlying ht, Instr.findNow, Instr.sameNow, e1 w]

theorem checkKey_basic {x y : AV} {d : TypeDesc} {r : Bool} {t : TypeId} (ht : p.underlying t = some d) (h : basicEqD x y d = some r) (b : Bool) (n : Nat) (v : Value) (w : World) : (Instr.checkKey b (n + 1) t v).run p w = .ok () w := by
  unfold Instr.checkKey
  simp only [Sem.run_bind, run_underlying ht, Result.andThen_ok]
  cases d <;> first | (simp [basicEqD] at h; done) | rfl

theorem checkFields_sound {b : Bool} {n : Nat} {xs : Array Value} {w : World} : ∀ (fs : List Field) (i : Nat) (a : List AV), VRs φ a (xs.toList.drop i) → fieldsEq p i fs a a = some true →
    (forIn fs PUnit.unit (fun (f : Field) (_ : PUnit) => do
      if f.name ≠ "_" then Instr.checkKey b (n + 1) f.type (← Go.part f.type xs f.offset)
      pure (ForInStep.yield PUnit.unit)) : Sem PUnit).run p w = .ok PUnit.unit w
  | [], i, a, _, h => by simp
  | f :: fs, i, [], _, h => by unfold fieldsEq at h; cases h
  | f :: fs, i, a :: l, ha, h => by
    unfold fieldsEq at h
    obtain ⟨h1, h2⟩ := guardB_some h
    obtain ⟨q, h3, h4⟩ := oB_some h2
    obtain ⟨d, h5, h6⟩ := oB_some h3
    simp only [Bool.and_eq_true, Bool.not_eq_true', beq_eq_false_iff_ne, ne_eq] at h1
    have hoff := Nat.eq_of_beq_eq_true h1.1
    generalize ex : xs.toList.drop i = xd at ha
    cases ha with
    | @cons _ va _ xl ha1 ha2 =>
    have gx : xs[i]? = some va := by
      have : (xs.toList.drop i)[0]? = some va := by rw [ex]; rfl
      simpa using this
    have dx : xs.toList.drop (i + 1) = xl := by
      have := congrArg (List.drop 1) ex; simpa [Nat.add_comm] using this
    have p1 := run_part_basic (w := w) h5 h6 (hoff ▸ gx)
    have p2 := checkKey_basic h5 h6 b n va w
    cases q with
    | false => cases h4
    | true =>
      have := checkFields_sound (b := b) (n := n) (w := w) fs (i + 1) l (by rw [dx]; exact ha2) h4
      simp only [List.forIn_cons, Sem.run_bind, Sem.run_ite]
      rw [if_pos h1.2]
      simp only [Sem.run_bind, p1, Result.andThen_ok, p2, Sem.run_pure]
      exact this

theorem checkKey_sound {t : TypeId} {d : TypeDesc} {k : AV} {k' : Value} (ht : p.underlying t = some d) (hk : VR φ k k') (h : keyEqD p t k k d = some true) (b : Bool) (w : World) :
    (Instr.checkKey b 10000 t k').run p w = .ok () w := by
  cases hd : isStruct d with
  | false =>
    have hb : basicEqD k k d = some true := by
      cases d <;> first | (cases hd; done) | exact h
    exact checkKey_basic ht hb b 9999 k' w
  | true =>
    cases d <;> first | (cases hd; done) | skip
    rename_i fs
    unfold keyEqD aggEq at h
    cases k <;> first | (cases h; done) | skip
    rename_i cs
    obtain ⟨h1, h2⟩ := guardB_some h
    obtain ⟨xs, rfl, hxs⟩ := hk.agg_inv
    unfold Instr.checkKey
    simp only [Sem.run_bind, run_underlying ht, Result.andThen_ok]
    rw [← Array.forIn_toList]
    have := checkFields_sound (p := p) (b := b) (n := 9998) (w := w) fs.toList 0 cs (by simpa using hxs) h2
    simp at this
    simp [this]

theorem keyFind_sound {t : TypeId} {k : AV} {k' : Value} (hk : VR φ k k') {es : List (AV × AV × Nat)} {es' : List MapEntry} {r : Option (Nat × AV)}
    (he : ERs φ es es') (h : keyFind p t k es = some r) : (∀ b w, (Instr.checkKey b 10000 t k').run p w = .ok () w) ∧ ∃ r', (∀ w, (Instr.findKey t k' es').run p w = .ok r' w) ∧ FoundR φ r r' := by
  obtain ⟨d, h1, h2⟩ := oB_some h
  obtain ⟨b, h3, h4⟩ := oB_some h2
  obtain ⟨h5, h6⟩ := guardB_some h4
  subst h5
  exact ⟨fun b w => checkKey_sound h1 hk h3 b w, findKey_sound h1 hk he h6⟩

/-! ### Operations that read -/
def Reads (φ : Phi) (p : Program) (ρ : Operand → Value) (o : Oper) (w : World) (v : AV) : Prop := ∃ v', (execOp ρ o).run p w = .ok (.value v') w ∧ VR φ v v'

theorem Calm.reads {v : AV} (h : Calm φ p ρ o v) (w : World) : Reads φ p ρ o w v := let ⟨v', h1, h2⟩ := h; ⟨v', h1 w, h2⟩

theorem atPtr_some {β : Type} {f : Nat → Nat → Option β} {a : AV} {r : β} (h : atPtr f a = some r) : ∃ b off, a = .ptr b off ∧ f b off = some r := by
  unfold atPtr at h
  split at h
  · exact ⟨_, _, rfl, h⟩
  · cases h

theorem read_load {w : World} {t : TypeId} {x : Operand} {v : AV} (hH : HR p φ s.hp w) (ho : o.op = .load t x) (hρ : EvR φ p s ρ o.op.operands.toList) (h : oB (ev p s x) (atPtr (loadVar p s.hp t)) = some v) : Reads φ p ρ o w v := by
  obtain ⟨a, h1, h2⟩ := oB_some h
  obtain ⟨b, off, rfl, h3⟩ := atPtr_some h2
  have ha := hρ x (by rw [ho]; simp [Op.operands]) _ h1
  obtain ⟨r, y, e1, e2⟩ := ha.ptr_inv
  obtain ⟨v', e3, e4⟩ := loadVar_sound hH e1 h3
  exact ⟨v', by unfold execOp; rw [ho]; simp [Instr.loadAt, Instr.sureAddr, e2, e3], e4⟩

theorem mapElem_some {t : TypeId} {ke : TypeId × TypeId} (h : oB (p.underlying t) mapElem = some ke) : p.underlying t = some (.map ke.1 ke.2) := by
  obtain ⟨d, h1, h2⟩ := oB_some h
  cases d <;> first | (cases h2; exact h1) | cases h2

theorem HR.map {H : Heap} {w : World} (h : HR p φ H w) {b : Nat} {es : List (AV × AV × Nat)} (hb : oB (H.get b) blkMap = some es) :
    ∃ r x es' clock, φ b = some (r, x) ∧ w.heap[r]? = some (.map es' clock) ∧ (ERs φ es es'.toList ∨ Bag φ es es'.toList) := by
  obtain ⟨k, h1, h2⟩ := oB_some hb
  obtain ⟨r, x, ob, e1, e2, e3⟩ := h.live b k h1
  cases e3 with
  | map he => cases h2; exact ⟨r, x, _, _, e1, e2, .inl he⟩
  | bag he => cases h2; exact ⟨r, x, _, _, e1, e2, .inr he⟩
  | cells => cases h2
  | loop => cases h2
  | defsT => cases h2
  | defsF => cases h2

theorem run_getObj_map {w : World} {r : Nat} {es : Array MapEntry} {clock : Nat} (h : w.heap[r]? = some (.map es clock)) : (getObj r).run p w = .ok (.map es clock) w := by
  simp [getObj, Sem.run, h]

/-- Found: whatever its place. -/
inductive FoundV (φ : Phi) : Option (Nat × AV) → Option (Nat × Value) → Prop
  | none : FoundV φ none none
  | some {i j : Nat} {v : AV} {v' : Value} (h : VR φ v v') : FoundV φ (some (i, v)) (some (j, v'))
theorem FoundR.v {r : Option (Nat × AV)} {r' : Option (Nat × Value)} (h : FoundR φ r r') : FoundV φ r r' := by
  cases h with
  | none => exact .none
  | some h => exact .some h

theorem keyEqD_int {x : AV} {kd : IntKind} {n : Int} {t : TypeId} {d : TypeDesc} {r : Bool} (h : keyEqD p t x (.int kd n) d = some r) : ∃ m kk, x = .int kd m ∧ d = .int kk ∧ r = (m == n) := by
  cases d <;> simp only [keyEqD, basicEqD] at h
  case int kk =>
    obtain ⟨k, a, b, rfl, e, rfl⟩ := intEq_some h
    cases e
    exact ⟨a, kk, rfl, rfl, rfl⟩
  case bool => obtain ⟨a, b, _, e, _⟩ := boolEq_some h; cases e
  case string => obtain ⟨a, b, _, e, _⟩ := strEq_some h; cases e
  case struct fs => unfold aggEq at h; split at h <;> first | (rename_i e; cases e; done) | cases h
  all_goals cases h

theorem findKey_in {t : TypeId} {d : TypeDesc} {kd : IntKind} {m : Int} : ∀ {es : List (AV × AV × Nat)} {i : Nat} {r : Option (Nat × AV)}, (∀ e, e ∈ es → ∃ n, e.1 = .int kd n) → findKey p t d (.int kd m) es i = some r →
    (∃ j v c, r = some (j, v) ∧ ((.int kd m, v, c) : AV × AV × Nat) ∈ es) ∨ (r = none ∧ ∀ v c, ((.int kd m, v, c) : AV × AV × Nat) ∉ es)
  | [], i, r, _, h => by cases h; exact .inr ⟨rfl, fun v c hm => by cases hm⟩
  | (ek, ev, ec) :: es, i, r, hi, h => by
    obtain ⟨q, h1, h2⟩ := oB_some h
    obtain ⟨n, hn⟩ := hi _ (List.mem_cons_self ..)
    simp only at hn
    subst hn
    obtain ⟨m', kk, e1, e2, e3⟩ := keyEqD_int h1
    cases e1
    cases q with
    | true =>
      cases h2
      have : m = n := by simpa using e3.symm
      subst this
      exact .inl ⟨_, _, ec, rfl, List.mem_cons_self ..⟩
    | false =>
      have hne : m ≠ n := by simpa using e3.symm
      rcases findKey_in (fun e he => hi e (List.mem_cons_of_mem _ he)) h2 with ⟨j, v, c, a, b⟩ | ⟨a, b⟩
      · exact .inl ⟨j, v, c, a, List.mem_cons_of_mem _ b⟩
      · refine .inr ⟨a, fun v c hm => ?_⟩
        rcases List.mem_cons.1 hm with e | e
        · cases e; exact hne rfl
        · exact b v c e

theorem findNow_int {kk kd : IntKind} {m : Int} : ∀ {es : List MapEntry} {i : Nat}, (∀ e, e ∈ es → ∃ n, e.key = .int kd n) →
    (∃ j e, Instr.findNow (.int kk) (.int kd m) es i = some (some (j, e.val)) ∧ e ∈ es ∧ e.key = .int kd m) ∨ (Instr.findNow (.int kk) (.int kd m) es i = some none ∧ ∀ e, e ∈ es → e.key ≠ .int kd m)
  | [], i, _ => .inr ⟨rfl, fun e h => by cases h⟩
  | e :: es, i, hi => by
    obtain ⟨n, hn⟩ := hi e (List.mem_cons_self ..)
    have hs : Instr.sameNow (.int kk) (.int kd m) e.key = some (m == n) := by rw [hn]; simp [Instr.sameNow]
    by_cases h : m = n
    · subst h
      refine .inl ⟨i, e, ?_, List.mem_cons_self .., hn⟩
      unfold Instr.findNow
      rw [hs]; simp
    · have hf : (m == n) = false := by simpa using h
      rcases findNow_int (kk := kk) (m := m) (i := i + 1) (fun e' he => hi e' (List.mem_cons_of_mem _ he)) with ⟨j, e', a, b, c⟩ | ⟨a, b⟩
      · refine .inl ⟨j, e', ?_, List.mem_cons_of_mem _ b, c⟩
        unfold Instr.findNow
        rw [hs, hf]; exact a
      · refine .inr ⟨?_, fun e' he => ?_⟩
        · unfold Instr.findNow
          rw [hs, hf]; exact a
        · rcases List.mem_cons.1 he with e1 | e1
          · subst e1; rw [hn]; intro e2; cases e2; exact h rfl
          · exact b e' e1

theorem bagFind_sound {t : TypeId} {k : AV} {k' : Value} (hk : VR φ k k') {es : List (AV × AV × Nat)} {es' : List MapEntry} {r : Option (Nat × AV)}
    (he : Bag φ es es') (h : keyFind p t k es = some r) : (∀ b w, (Instr.checkKey b 10000 t k').run p w = .ok () w) ∧ ∃ r', (∀ w, (Instr.findKey t k' es').run p w = .ok r' w) ∧ FoundV φ r r' := by
  obtain ⟨d, h1, h2⟩ := oB_some h
  obtain ⟨b, h3, h4⟩ := oB_some h2
  obtain ⟨h5, h6⟩ := guardB_some h4
  subst h5
  refine ⟨fun b w => checkKey_sound h1 hk h3 b w, ?_⟩
  obtain ⟨h0, kd, b1, b2, b3, b4, b5⟩ := he
  cases es with
  | nil =>
    cases h6
    have : es' = [] := List.eq_nil_of_length_eq_zero h0.symm
    subst this
    exact ⟨none, fun w => by unfold Instr.findKey; simp [run_underlying h1, Instr.findNow], .none⟩
  | cons e0 es0 =>
    have hkk : ∃ m kk, k = .int kd m ∧ d = .int kk := by
      obtain ⟨ek, ev, ec⟩ := e0
      obtain ⟨q, g1, g2⟩ := oB_some h6
      obtain ⟨n, hn⟩ := b1 _ (List.mem_cons_self ..)
      simp only at hn
      subst hn
      obtain ⟨m, kk, e1, e2, _⟩ := keyEqD_int g1
      exact ⟨m, kk, e1, e2⟩
    obtain ⟨m, kk, rfl, rfl⟩ := hkk
    have hk2 := hk.int_inv
    subst hk2
    rcases findNow_int (kk := kk) (m := m) (i := 0) b2 with ⟨j, e, a1, a2, a3⟩ | ⟨a1, a2⟩
    · refine ⟨_, fun w => by unfold Instr.findKey; simp [run_underlying h1, a1]; rfl, ?_⟩
      rcases findKey_in b1 h6 with ⟨j', v, c, c1, c2⟩ | ⟨c1, c2⟩
      · subst c1
        obtain ⟨e', d1, d2, d3⟩ := b3 m v c c2
        have := b4 e' e d1 a2 (d2.trans a3.symm)
        rw [← this]
        exact .some d3
      · obtain ⟨v, c, d1⟩ := b5 e m a2 a3
        exact absurd d1 (c2 v c)
    · refine ⟨none, fun w => by unfold Instr.findKey; simp [run_underlying h1, a1], ?_⟩
      rcases findKey_in b1 h6 with ⟨j', v, c, c1, c2⟩ | ⟨c1, c2⟩
      · obtain ⟨e', d1, d2, d3⟩ := b3 m v c c2
        exact absurd d2 (a2 e' d1)
      · subst c1; exact .none

theorem lookE_sound {w : World} {key elem : TypeId} {k : AV} {k' : Value} {ok : Bool} {es : List (AV × AV × Nat)} {es' : List MapEntry} {v : AV} (hk : VR φ k k') (he : ERs φ es es' ∨ Bag φ es es') (h : lookE p key elem k ok es = some v) (b : Bool) :
    ∃ v', ((do
      Instr.checkKey b 10000 key k'
      let (v, o) ← match ← Instr.findKey key k' es' with
        | some (_, v) => pure (v, true)
        | none => pure (← zeroValue elem, false)
      pure (if ok then .tuple #[v, .bool o] else v)) : Sem Value).run p w = .ok v' w ∧ VR φ v v' := by
  obtain ⟨r, h1, h2⟩ := oB_some h
  have hfd : (∀ b w, (Instr.checkKey b 10000 key k').run p w = .ok () w) ∧ ∃ r', (∀ w, (Instr.findKey key k' es').run p w = .ok r' w) ∧ FoundV φ r r' := by
    rcases he with he | he
    · obtain ⟨hc, r', hf, hr⟩ := keyFind_sound hk he h1
      exact ⟨hc, r', hf, hr.v⟩
    · exact bagFind_sound hk he h1
  obtain ⟨hc, r', hf, hr⟩ := hfd
  have fin : ∀ (ok : Bool) (b : Bool) (a : AV) (a' : Value), VR φ a a' → VR φ (okWith ok a b) (if ok = true then .tuple #[a', .bool b] else a') := fun ok b a a' ha => by
    cases ok with
    | true => exact .tup (.cons ha (.cons (.bool b) .nil))
    | false => exact ha
  cases hr with
  | none =>
    obtain ⟨z, hz, rfl⟩ := oM_some h2
    obtain ⟨z', e1, e2⟩ := run_zeroValue (w := w) hz
    refine ⟨_, ?_, fin ok false z z' (e2 φ)⟩
    simp [hc b w, hf w, e1]
  | @some i j a a' ha =>
    cases h2
    refine ⟨_, ?_, fin ok true a a' ha⟩
    simp [hc b w, hf w]

theorem read_lookup {w : World} {t : TypeId} {m k : Operand} {ok : Bool} {v : AV} (hH : HR p φ s.hp w) (ho : o.op = .lookup t m k ok) (hρ : EvR φ p s ρ o.op.operands.toList) (h : opLookup p s t m k ok = some v) : Reads φ p ρ o w v := by
  obtain ⟨a, h1, h2⟩ := oB_some h
  obtain ⟨kv, h3, h4⟩ := oB_some h2
  obtain ⟨ke, h5, h6⟩ := oB_some h4
  have ha := hρ m (by rw [ho]; simp [Op.operands]) _ h1
  have hk := hρ k (by rw [ho]; simp [Op.operands]) _ h3
  have hu := mapElem_some h5
  unfold Reads execOp; rw [ho]
  simp only
  unfold Instr.lookup
  cases a <;> first | (cases h6; done) | skip
  · rename_i b
    obtain ⟨es, h7, h8⟩ := oB_some (show oB (oB (s.hp.get b) blkMap) (lookE p ke.1 ke.2 kv ok) = some v from h6)
    obtain ⟨r, x, e1, e2⟩ := ha.mp_inv
    obtain ⟨r', x', es', clock, e3, e4, e5⟩ := hH.map h7
    rw [e1] at e3; cases e3
    obtain ⟨v', e6, e7⟩ := lookE_sound (w := w) hk e5 h8 es'.isEmpty
    refine ⟨v', ?_, e7⟩
    simp only [Sem.run_bind, run_underlying hu, Result.andThen_ok, e2, run_getObj_map e4, Sem.run_pure] at e6 ⊢
    exact (congrArg (fun r => Result.andThen r (fun a w' => Result.ok (Next.value a) w')) e6).trans rfl
  · obtain ⟨v', e6, e7⟩ := lookE_sound (w := w) hk (.inl .nil) (show lookE p ke.1 ke.2 kv ok [] = some v from h6) (#[] : Array MapEntry).isEmpty
    refine ⟨v', ?_, e7⟩
    simp only [Sem.run_bind, run_underlying hu, Result.andThen_ok, ha.nilmp_inv, Sem.run_pure] at e6 ⊢
    exact (congrArg (fun r => Result.andThen r (fun a w' => Result.ok (Next.value a) w')) e6).trans rfl

end
end Go.Shadow
namespace Go.Shadow
section
variable {p : Program} {φ : Phi} {s : St} {ρ : Operand → Value} {o : Oper}

/-! ### Rows of zeros -/
theorem range_mul_map {α : Type} (f : Nat → α) (n : Nat) (hf : ∀ i, f (n + i) = f i) : ∀ c, (List.range (c * n)).map f = (List.replicate c ((List.range n).map f)).flatten
  | 0 => by simp
  | c + 1 => by
    rw [Nat.succ_mul, Nat.add_comm, List.range_add, List.map_append, List.map_map, List.replicate_succ, List.flatten_cons]
    congr 1
    rw [← range_mul_map f n hf c]
    apply List.map_congr_left
    intro i _
    exact hf i

theorem zeros_list (zero : Array Value) (c : Nat) : ((Array.range (c * zero.size)).map (fun i => zero[i % zero.size]!)).toList = (List.replicate c zero.toList).flatten := by
  rw [Array.toList_map, Array.toList_range, range_mul_map _ _ (fun i => by simp)]
  congr 2
  apply List.ext_getElem
  · simp
  · intro i h1 h2
    simp at h1
    simp [Nat.mod_eq_of_lt h1, h1]

theorem repCells_vr {z : List AV} {z' : List Value} (h : VRs φ z z') : ∀ c, VRs φ (repCells z c) (List.replicate c z').flatten
  | 0 => .nil
  | c + 1 => by
    rw [List.replicate_succ, List.flatten_cons]
    exact h.append (repCells_vr h c)

/-! ### Operations that lay a block, whatever the world -/
def Allocs (φ : Phi) (p : Program) (ρ : Operand → Value) (o : Oper) (mkA : Nat → AV) (k : ABlk) : Prop :=
  ∃ (mkV : Nat → Value) (obj : Obj), (∀ w, (execOp ρ o).run p w = .ok (.value (mkV w.heap.size)) { w with heap := w.heap.push obj }) ∧
    (∀ ψ, Phi.le φ ψ → BR p ψ 0 k obj) ∧ (∀ (ψ : Phi) n r, ψ n = some (r, 0) → VR ψ (mkA n) (mkV r))

theorem BR.row {cs : List AV} {arr : Array Value} {e : TypeId} (hc : VRs φ cs arr.toList) : BR p φ 0 (.cells cs e true) (.cells arr e) :=
  .cells (rest := []) (by simp) hc (fun _ off _ hh => by simp at hh) (fun n _ => by have := hc.length; simp at this; omega)

theorem alloc_alloc {t : TypeId} {z : AV} (ho : o.op = .alloc t) (h : zeroOf p t = some z) : Allocs φ p ρ o (fun n => .ptr n 0) (.cells z.cells t true) := by
  obtain ⟨z', h1, h2⟩ := zeroOf_world h
  refine ⟨fun r => .pointer (some ⟨r, 0, none⟩), .cells z'.cells t, fun w => ?_, fun ψ hle => .row (h2 ψ).cells, fun ψ n r e => .ptr 0 e⟩
  unfold execOp; rw [ho]
  simp [Instr.alloc, h1, newVar, run_newRow]

theorem alloc_box {t : TypeId} {x : Operand} {v : AV} (ho : o.op = .box t x) (hρ : EvR φ p s ρ o.op.operands.toList) (h : ev p s x = some v) : Allocs φ p ρ o (fun n => .ptr n 0) (.cells v.cells t true) := by
  have hx := hρ x (by rw [ho]; simp [Op.operands]) _ h
  refine ⟨fun r => .pointer (some ⟨r, 0, none⟩), .cells (ρ x).cells t, fun w => ?_, fun ψ hle => .row (hx.mono hle).cells, fun ψ n r e => .ptr 0 e⟩
  unfold execOp; rw [ho]
  simp [Instr.box, newVar, run_newRow]

theorem alloc_makeMap {t : TypeId} (ho : o.op = .makeMap t none) : Allocs φ p ρ o (fun n => .mp n) (.map [] 0 true) := by
  refine ⟨fun r => .map (some r), .map #[] 0, fun w => ?_, fun ψ hle => .map .nil, fun ψ n r e => .mp e⟩
  unfold execOp; rw [ho]
  simp [Instr.makeMap, newObj, Sem.run]

theorem fewBytes_some {e : TypeId} (h : fewBytes p e = true) : ∃ i, p.info? e = some i ∧ i.bytes < 1000000 := by
  unfold fewBytes at h
  cases hi : p.info? e with
  | none => rw [hi] at h; cases h
  | some i => rw [hi] at h; exact ⟨i, rfl, blt_lt h⟩

theorem wrap_small {n : Nat} (h : n < 9223372036854775808) : IntKind.wrap .i64 (n : Int) = (n : Int) := by
  have := wrapI_eq .i64 (n : Int)
  rw [← this]
  unfold wrapI
  have : fits .i64 (Int.ofNat n) = true := Nat.blt_eq ▸ h
  show (match fits .i64 (Int.ofNat n) with | true => _ | false => _) = _
  rw [this]

theorem map_range0 {α : Type} (f : Nat → α) : (Array.range 0).map f = #[] := by apply Array.ext'; simp

theorem run_asInt {w : World} {k : IntKind} {n : Int} : (asInt (.int k n)).run p w = .ok n w := by simp [asInt, asIntOf]

theorem alloc_makeSlice {t e : TypeId} {l c : Operand} {a b : Nat} {k k' : IntKind} {z : AV} {n : Nat} (ho : o.op = .makeSlice t l c) (hρ : EvR φ p s ρ o.op.operands.toList) (ht : p.underlying t = some (.slice e))
    (hl : ev p s l = some (.int k (Int.ofNat a))) (hc : ev p s c = some (.int k' (Int.ofNat b))) (hz : zeroOf p e = some z) (hn : sizeOf p e = some n)
    (hzn : z.cells.length = n) (hab : a ≤ b) (hb : b < 100000) (h0 : 0 < n) (hf : fewBytes p e = true) : Allocs φ p ρ o (fun n => .sl n 0 a b true) (.cells (repCells z.cells b) e true) := by
  have hl' := (hρ l (by rw [ho]; simp [Op.operands]) _ hl).int_inv
  have hc' := (hρ c (by rw [ho]; simp [Op.operands]) _ hc).int_inv
  obtain ⟨i, hi, hib⟩ := fewBytes_some hf
  obtain ⟨z', h1, h2⟩ := zeroOf_world hz
  have hsz : z'.cells.size = n := by
    have := (h2 φ).cells.length
    rw [← Array.length_toList]; omega
  refine ⟨fun r => .slice (some ⟨r, 0, none⟩) a b, .cells ((Array.range (b * n)).map (fun i => z'.cells[i % z'.cells.size]!)) e, fun w => ?_, fun ψ hle => .row ?_, fun ψ m r e => .slx 0 a b e⟩
  · unfold execOp; rw [ho]
    simp only
    unfold Instr.makeSlice
    have e1 : (Int.ofNat a) = (a : Int) := rfl
    have e2 : (Int.ofNat b) = (b : Int) := rfl
    have hbb : (i.bytes : Int) * (b : Int) ≤ 2 ^ 48 := by
      have : i.bytes * b ≤ 1000000 * 100000 := Nat.mul_le_mul (by omega) (by omega)
      have h3 : ((i.bytes * b : Nat) : Int) ≤ ((1000000 * 100000 : Nat) : Int) := by exact_mod_cast this
      rw [← Int.natCast_mul]
      omega
    have hbb' : ¬ ((b : Int) < 0 ∨ (i.bytes : Int) * (b : Int) > 2 ^ 48) := by omega
    have hask : (askRoom ((b : Int).toNat * i.bytes)).run p w = .ok () w := by
      unfold askRoom; split <;> rfl
    have e3 : ((b : Int)).toNat = b := by omega
    have e4 : ((a : Int)).toNat = a := by omega
    simp only [Sem.run_bind, run_underlying ht, Result.andThen_ok, hl', hc', run_asInt, Sem.run_pure, run_typeInfo hi, run_sizeOf hn, e1, e2, wrap_small (show a < _ by omega), wrap_small (show b < _ by omega)]
    rw [if_neg (by simp; omega)]
    simp only [Sem.run_bind, hask, Result.andThen_ok, run_sizeOf hn, e3, e4]
    by_cases hb0 : b = 0
    · subst hb0
      simp [run_newRow, Sem.run_ite, map_range0]
    · have hbn : b * n ≠ 0 := Nat.mul_ne_zero hb0 (by omega)
      rw [if_neg hbn]
      simp [h1, run_newRow]
  · rw [← hsz, zeros_list]
    exact repCells_vr (h2 ψ).cells b

theorem alloc_buildSlice {t e : TypeId} {len : Nat} {parts : Array (Nat × Operand)} {l : List (Nat × AV)} {z : AV} {n : Nat} {cs : List AV} (ho : o.op = .buildSlice t len parts) (hρ : EvR φ p s ρ o.op.operands.toList) (ht : p.underlying t = some (.slice e))
    (hl : evParts p s parts.toList = some l) (hz : zeroOf p e = some z) (hn : sizeOf p e = some n) (hzn : z.cells.length = n) (h0 : 0 < n) (h1000 : n < 1000) (hlen : len < 10000)
    (hc : fillA (fun i => some (i * n, n)) (repCells z.cells len) l = some cs) : Allocs φ p ρ o (fun m => .sl m 0 len len true) (.cells cs e true) := by
  have hρ' : EvR φ p s ρ (parts.toList.map (·.2)) := by
    intro y hy; apply hρ y; rw [ho]; simpa [Op.operands] using hy
  obtain ⟨g1, g2⟩ := evParts_sound hρ' hl
  obtain ⟨z', h1, h2⟩ := zeroOf_world hz
  have hsz : z'.cells.size = n := by
    have := (h2 φ).cells.length
    rw [← Array.length_toList]; omega
  have hpl : (parts.map fun (i, x) => (i, ρ x)).toList = parts.toList.map fun (i, x) => (i, ρ x) := by simp
  have hrow : VRs φ (repCells z.cells len) ((Array.range (len * n)).map (fun i => z'.cells[i % z'.cells.size]!)).toList := by
    rw [← hsz, zeros_list]; exact repCells_vr (h2 φ).cells len
  obtain ⟨r', g3, g4⟩ := fill_sound (place := fun i => some (i * n, n)) (placeA := fun i => some (i * n, n)) (fun i os hi => hi) l _ _ cs _ hrow g1 g2 hc
  refine ⟨fun r => .slice (some ⟨r, 0, none⟩) len len, .cells r' e, fun w => ?_, fun ψ hle => .row (g4.mono hle), fun ψ m r e => .slx 0 len len e⟩
  unfold execOp; rw [ho]
  simp only
  unfold Instr.buildSlice
  have hle : len * n ≤ 10000 * 1000 := Nat.mul_le_mul (by omega) (by omega)
  simp only [Sem.run_bind, run_underlying ht, Result.andThen_ok, run_sizeOf hn]
  rw [if_neg (by omega)]
  by_cases hb0 : len * n = 0
  · have hl0 : len = 0 := by
      rcases Nat.mul_eq_zero.1 hb0 with h | h
      · exact h
      · omega
    subst hl0
    have e0 : (Array.range (0 * n)).map (fun i => z'.cells[i % z'.cells.size]!) = #[] := by simp
    rw [e0] at g3
    simp only [Sem.run_bind, Sem.run_pure, Result.andThen_ok, hb0, if_true, hpl]
    simp only [map_range0]
    have g3' := g3
    simp only at g3'
    rw [g3']
    simp [run_newRow]
  · rw [if_neg hb0]
    simp only [Sem.run_bind, h1, Sem.run_pure, Result.andThen_ok, hpl, g3]
    simp [run_newRow]

end
end Go.Shadow
namespace Go.Shadow
section
variable {p : Program} {φ : Phi} {s : St} {ρ : Operand → Value} {o : Oper}

noncomputable def ORes.heap (H : Heap) : ORes → Heap
  | .v _ => H
  | .vh _ h => h

/-- An operation runs to its end, and both sides are alike behind it. -/
def Does (φ : Phi) (p : Program) (ρ : Operand → Value) (o : Oper) (H : Heap) (w : World) (r : ORes) : Prop :=
  ∃ nx v' w' φ', (execOp ρ o).run p w = .ok nx w' ∧ (nx = .value v' ∨ (nx = .skip ∧ v' = undef)) ∧ VR φ' r.val v' ∧ HR p φ' (r.heap H) w' ∧ Step φ H w φ' (r.heap H) w'

theorem Reads.does {v : AV} {H : Heap} {w : World} (h : Reads φ p ρ o w v) (hH : HR p φ H w) : Does φ p ρ o H w (.v v) :=
  let ⟨v', h1, h2⟩ := h; ⟨.value v', v', w, φ, h1, .inl rfl, h2, hH, Step.refl _ _ _⟩

theorem Allocs.does {mkA : Nat → AV} {k : ABlk} {H : Heap} {w : World} (h : Allocs φ p ρ o mkA k) (hH : HR p φ H w) : Does φ p ρ o H w (.vh (mkA H.n) (H.new k)) := by
  obtain ⟨mkV, obj, h1, h2, h3⟩ := h
  obtain ⟨g1, g2⟩ := hH.new (x := 0) h2
  exact ⟨_, _, _, _, h1 w, .inl rfl, h3 _ _ _ Phi.add_same, g1, g2⟩

theorem vr_undef {φ : Phi} : VR φ AV.undef undef := .tup .nil

theorem does_store {H : Heap} {w : World} {t : TypeId} {a x : Operand} {r : ORes} (hH : HR p φ s.hp w) (ho : o.op = .store t a x) (hρ : EvR φ p s ρ o.op.operands.toList) (h : opStore p s t a x = some r) : Does φ p ρ o s.hp w r := by
  obtain ⟨v, h1, h2⟩ := oB_some h
  obtain ⟨ad, h3, h4⟩ := oB_some h2
  obtain ⟨b, off, rfl, h5⟩ := atPtr_some h4
  obtain ⟨H', h6, rfl⟩ := oM_some (show oM (fun h => ORes.vh AV.undef h) (storeVar p s.hp t b off v) = some r from h5)
  have hv := hρ x (by rw [ho]; simp [Op.operands]) _ h1
  have ha := hρ a (by rw [ho]; simp [Op.operands]) _ h3
  obtain ⟨q, y, e1, e2⟩ := ha.ptr_inv
  obtain ⟨w', e3, e4, e5⟩ := storeVar_sound hH e1 hv h6
  exact ⟨.skip, undef, w', φ, by unfold execOp; rw [ho]; simp [Instr.storeAt, Instr.sureAddr, e2, e3], .inr ⟨rfl, rfl⟩, vr_undef, e4, e5⟩

/-! ### Maps -/
theorem findKey_at {t : TypeId} {d : TypeDesc} {k : AV} : ∀ {es : List (AV × AV × Nat)} {i j : Nat} {v : AV}, findKey p t d k es i = some (some (j, v)) →
    ∃ m e, j = i + m ∧ es[m]? = some e ∧ keyEqD p t k e.1 d = some true
  | [], i, j, v, h => by cases h
  | e :: es, i, j, v, h => by
    obtain ⟨q, h1, h2⟩ := oB_some h
    cases q with
    | true => cases h2; exact ⟨0, e, rfl, rfl, h1⟩
    | false =>
      obtain ⟨m, e', g1, g2, g3⟩ := findKey_at h2
      exact ⟨m + 1, e', by omega, by simpa using g2, g3⟩

theorem ERs.get : ∀ {l : List (AV × AV × Nat)} {l' : List MapEntry} {i : Nat} {e : AV × AV × Nat}, ERs φ l l' → l[i]? = some e → ∃ e', l'[i]? = some e' ∧ ER φ e e'
  | _, _, _, _, .nil, h => by simp at h
  | _, _, 0, _, .cons a t, h => by simp at h; subst h; exact ⟨_, rfl, a⟩
  | _, _, i + 1, _, .cons a t, h => by simp at h; obtain ⟨e', h1, h2⟩ := t.get h; exact ⟨e', by simpa using h1, h2⟩
theorem ERs.append : ∀ {l m : List (AV × AV × Nat)} {l' m' : List MapEntry}, ERs φ l l' → ERs φ m m' → ERs φ (l ++ m) (l' ++ m')
  | _, _, _, _, .nil, h => h
  | _, _, _, _, .cons a t, h => .cons a (t.append h)
theorem ERs.modify {k v : AV} {k' v' : Value} (hk : VR φ k k') (hv : VR φ v v') : ∀ {l : List (AV × AV × Nat)} {l' : List MapEntry} (i : Nat), ERs φ l l' →
    ERs φ (modAt (fun e => (k, v, e.2.2)) l i) (l'.modify i fun e => { e with key := k', val := v' })
  | _, _, i, .nil => by cases i <;> exact .nil
  | _, _, 0, .cons (.mk a b) t => .cons (.mk hk hv) t
  | _, _, i + 1, .cons a t => .cons a (ERs.modify hk hv i t)

theorem sameBits_of {x y : AV} {t : TypeId} {d : TypeDesc} {x' y' : Value} (hx : VR φ x x') (hy : VR φ y y') (ho : isOne x = true) (h : keyEqD p t x y d = some true) : Instr.sameBits 10000 y' x' = true := by
  have hb : basicEqD x y d = some true := by
    cases d <;> first | exact h | skip
    rename_i fs
    have h' : aggEq p t fs x y = some true := h
    unfold aggEq at h'
    split at h'
    · cases ho
    · cases h'
  cases d <;> simp only [basicEqD] at hb
  case bool =>
    obtain ⟨a, b, rfl, rfl, e⟩ := boolEq_some hb
    have : a = b := by simpa using e.symm
    subst this
    rw [hx.bool_inv, hy.bool_inv]; simp [Instr.sameBits]
  case int k' =>
    obtain ⟨k, a, b, rfl, rfl, e⟩ := intEq_some hb
    have : a = b := by simpa using e.symm
    subst this
    rw [hx.int_inv, hy.int_inv]; simp [Instr.sameBits]
  case string =>
    obtain ⟨a, b, rfl, rfl, e⟩ := strEq_some hb
    obtain ⟨u, rfl, rfl⟩ := hx.str_inv
    obtain ⟨v, rfl, rfl⟩ := hy.str_inv
    rw [map_eq] at e
    have e' : u.toList = v.toList := by simpa using e.symm
    have : (v == u) = true := by rw [beq_toListBytes]; simp [e']
    unfold Instr.sameBits; exact this
  all_goals cases hb

theorem run_setObj_map {w : World} {r : Nat} {es : Array MapEntry} {clock : Nat} {ob : Obj} (h : w.heap[r]? = some (.map es clock)) : (setObj r ob).run p w = .ok () { w with heap := w.heap.setIfInBounds r ob } := by
  simp [setObj, Sem.run, h]

theorem mapKeyD_some {t k : TypeId} (h : oB (p.underlying t) mapKeyD = some k) : ∃ e, p.underlying t = some (.map k e) := by
  obtain ⟨d, h1, h2⟩ := oB_some h
  cases d <;> first | (cases h2; exact ⟨_, h1⟩) | cases h2

theorem mapPut_sound {H H' : Heap} {w : World} {t : TypeId} {m k v : AV} {m' k' v' : Value} (hH : HR p φ H w) (hm : VR φ m m') (hk : VR φ k k') (hv : VR φ v v') (h : mapPut p H t m k v = some H') :
    ∃ w', (Instr.mapUpdate t m' k' v').run p w = .ok () w' ∧ HR p φ H' w' ∧ Step φ H w φ H' w' := by
  unfold mapPut at h
  split at h
  · rename_i b
    obtain ⟨kt, h1, h2⟩ := oB_some h
    obtain ⟨blk, h3, h4⟩ := oB_some h2
    obtain ⟨et, hu⟩ := mapKeyD_some h1
    unfold mapPutB at h4
    split at h4
    · rename_i es clock
      obtain ⟨r, h5, h6⟩ := oB_some h4
      obtain ⟨q, x, e1, rfl⟩ := hm.mp_inv
      obtain ⟨q', x', ob, e2, e3, e4⟩ := hH.live b _ h3
      rw [e1] at e2; cases e2
      cases e4 with
      | @map _ _ _ es' he =>
      obtain ⟨hc, r', hf, hr⟩ := keyFind_sound hk he h5
      obtain ⟨d, g1, g2⟩ := oB_some h5
      obtain ⟨b0, g3, g4⟩ := oB_some g2
      obtain ⟨-, g5⟩ := guardB_some g4
      cases hr with
      | none =>
        cases h6
        have hb : BR p φ x (.map (es ++ [(k, v, clock)]) (Nat.succ clock) true) (.map (es'.push { key := k', val := v', born := clock }) (clock + 1)) := by
          refine .map ?_
          rw [Array.toList_push]
          exact he.append (.cons (.mk hk hv) .nil)
        obtain ⟨s1, s2⟩ := hH.set h3 rfl e1 hb
        exact ⟨_, by unfold Instr.mapUpdate; simp only [Sem.run_bind, run_underlying hu, Result.andThen_ok, run_getObj_map e3, hc false w, hf w, run_setObj_map e3], s1, s2⟩
      | @some i a a' ha =>
        obtain ⟨h7, h8⟩ := guardB_some h6
        cases h8
        obtain ⟨m0, e, rfl, g6, g7⟩ := findKey_at g5
        obtain ⟨e', g8, g9⟩ := he.get g6
        have g8' : es'[0 + m0]? = some e' := by simpa using g8
        have hb : BR p φ x (.map (modAt (fun e => (k, v, e.2.2)) es (0 + m0)) clock true) (.map (es'.modify (0 + m0) fun e => { e with key := k', val := v' }) clock) := by
          refine .map ?_
          rw [Array.toList_modify]
          exact he.modify hk hv _
        obtain ⟨s1, s2⟩ := hH.set h3 rfl e1 hb
        have hsame : Instr.sameBits 10000 e'.key k' = true := by
          cases g9 with
          | mk hk0 hv0 => exact sameBits_of hk hk0 h7 g7
        refine ⟨_, ?_, s1, s2⟩
        unfold Instr.mapUpdate
        simp only [Sem.run_bind, run_underlying hu, Result.andThen_ok, run_getObj_map e3, hc false w, hf w, g8', Option.map_some, Option.getD_some]
        unfold Instr.keyThatStays
        simp only [hsame, if_true, Sem.run_bind, Sem.run_pure, Result.andThen_ok, run_setObj_map e3]
    · cases h4
  · cases h

theorem does_mapPut {w : World} {t : TypeId} {m k x : Operand} {r : ORes} (hH : HR p φ s.hp w) (ho : o.op = .mapUpdate t m k x ∨ o.op = .insert t m k x) (hρ : EvR φ p s ρ o.op.operands.toList) (h : opMapPut p s t m k x = some r) : Does φ p ρ o s.hp w r := by
  obtain ⟨a, h1, h2⟩ := oB_some h
  obtain ⟨kv, h3, h4⟩ := oB_some h2
  obtain ⟨v, h5, h6⟩ := oB_some h4
  obtain ⟨H', h7, rfl⟩ := oM_some (show oM (fun h => ORes.vh AV.undef h) (mapPut p s.hp t a kv v) = some r from h6)
  have hops : ∀ z, z = m ∨ z = k ∨ z = x → z ∈ o.op.operands.toList := by
    intro z hz
    rcases ho with e | e <;> rw [e] <;> simpa [Op.operands] using hz
  obtain ⟨w', e3, e4, e5⟩ := mapPut_sound hH (hρ m (hops _ (.inl rfl)) _ h1) (hρ k (hops _ (.inr (.inl rfl))) _ h3) (hρ x (hops _ (.inr (.inr rfl))) _ h5) h7
  refine ⟨.skip, undef, w', φ, ?_, .inr ⟨rfl, rfl⟩, vr_undef, e4, e5⟩
  unfold execOp
  rcases ho with e | e <;> rw [e] <;> simp [e3]

end
end Go.Shadow
namespace Go.Shadow
section
variable {p : Program} {φ : Phi} {s : St} {ρ : Operand → Value} {o : Oper}

/-! ### append and copy -/
theorem lenOf_sound {w : World} {x : AV} {x' : Value} {n : Nat} (hx : VR φ x x') (h : lenOf x = some n) : (Builtin.lenOf x').run p w = .ok n w := by
  unfold lenOf at h
  split at h
  · cases h; obtain ⟨r, y, e, rfl⟩ := hx.sl_inv; rfl
  · cases h; rw [hx.nilsl_inv]; rfl
  · cases h
    obtain ⟨u, rfl, rfl⟩ := hx.str_inv
    have : (u.data.toList.map UInt8.toNat).length = u.size := by simp
    rw [this]; rfl
  · cases h

theorem byteCells_vr (l : List UInt8) : VRs φ (byteCells (l.map UInt8.toNat)) (l.map fun b => Value.int .u8 b.toNat) := by
  induction l with
  | nil => exact .nil
  | cons a l ih => exact .cons (.int _ _) ih

theorem firstCells_sound {H : Heap} {w : World} (hH : HR p φ H w) {x : AV} {x' : Value} {size n : Nat} {cs : List AV} (hx : VR φ x x') (h : firstCells H size n x = some cs) :
    ∃ vs, (Builtin.firstCells size n x').run p w = .ok vs w ∧ VRs φ cs vs.toList := by
  unfold firstCells at h
  split at h
  · obtain ⟨r, y, e, rfl⟩ := hx.sl_inv
    obtain ⟨vs, h1, h2⟩ := loadCells_sound hH e h
    exact ⟨vs, h1, h2⟩
  · obtain ⟨h1, h2⟩ := guardB_some h
    cases h2
    rw [hx.nilsl_inv]
    exact ⟨#[], rfl, .nil⟩
  · obtain ⟨-, h⟩ := guardB_some h
    obtain ⟨l, h1, rfl⟩ := oM_some h
    obtain ⟨u, rfl, rfl⟩ := hx.str_inv
    obtain ⟨rfl, hle⟩ := firstN_eq _ _ _ h1
    refine ⟨(u.extract 0 n).data.map fun b => .int .u8 b.toNat, rfl, ?_⟩
    rw [Array.toList_map]
    have e : (u.extract 0 n).data.toList = u.data.toList.take n := by simp [List.extract_eq_take_drop]
    rw [e, ← List.map_take]
    exact byteCells_vr _
  · cases h

theorem growBy_le (newLen : Nat) : ∀ (k c B : Nat), c ≤ B → Builtin.growBy newLen k c ≤ 2 ^ k * (B + 768)
  | 0, c, B, h => by simp [Builtin.growBy]; omega
  | k + 1, c, B, h => by
    unfold Builtin.growBy
    have e : 2 ^ (k + 1) * (B + 768) = 2 ^ k * (2 * (B + 768)) := by rw [Nat.pow_succ, Nat.mul_assoc]
    split
    · exact Nat.le_trans (show c ≤ B + 768 by omega) (Nat.le_mul_of_pos_left _ (Nat.two_pow_pos _))
    · have h1 := growBy_le newLen k (c + (c + 768) / 4) (B + (B + 768) / 4) (by omega)
      rw [e]
      exact Nat.le_trans h1 (Nat.mul_le_mul_left _ (by omega))
theorem nextslicecap_le {need cap B : Nat} (h1 : need ≤ B) (h2 : cap ≤ B) : Builtin.nextslicecap need cap ≤ 16 * (B + 768) := by
  have h3 : Builtin.growBy need 4 cap ≤ 16 * (B + 768) := growBy_le need 4 cap B h2
  unfold Builtin.nextslicecap
  generalize Builtin.growBy need 4 cap = g at h3 ⊢
  split
  · omega
  · split <;> omega

theorem noCount_some {ts : Array TypeId} (h : noCount p ts = true) : ∃ tx, ts[1]? = some tx ∧ ((∃ e', p.underlying tx = some (.slice e')) ∨ p.underlying tx = some .string) := by
  unfold noCount at h
  cases e : ts[1]? with
  | none => rw [e] at h; cases h
  | some t =>
    rw [e] at h
    cases e2 : p.underlying t with
    | none => simp only [e2] at h; cases h
    | some d =>
      simp only [e2] at h
      cases d <;> first | exact ⟨t, rfl, .inl ⟨_, e2⟩⟩ | exact ⟨t, rfl, .inr e2⟩ | (simp [rowDesc] at h; done)

/-- The grown row. -/
theorem run_append_grow {H : Heap} {w : World} (hH : HR p φ H w) {ts : Array TypeId} {ty t e : TypeId} {size n len rcap : Nat} {sv xv : Value} {s' : Option Addr} {new : List AV} {x : AV} {olds : List AV}
    (h0 : ts[0]? = some t) (ht : p.underlying t = some (.slice e)) (hs : sv = .slice s' len rcap) (hsz : Go.Shadow.sizeOf p e = some size) (hf : fewBytes p e = true) (hz : zeroLen p e size = true) (hc : noCount p ts = true)
    (hl : ∀ w, (Builtin.lenOf xv).run p w = .ok n w)
    (hx : VR φ x xv) (hnew : firstCells H size n x = some new)
    (hold : ∀ w, HR p φ H w → ∃ vs, (Builtin.firstCells size len sv).run p w = .ok vs w ∧ VRs φ olds vs.toList)
    (hgt : rcap < len + n) (hlt : len + n < 100000) (hlen : olds.length = len * size) (hnl : new.length = n * size) :
    ∃ r' rest extra arr, (Builtin.append_ ts ty #[sv, xv]).run p w = .ok (.slice (some ⟨w.heap.size, 0, none⟩) (len + n) (len + n + extra)) (w.drew.alloc (.cells arr e)) ∧
      arr.toList = r' ++ rest ∧ VRs φ (olds ++ new) r' ∧ (olds ++ new).length + extra * size ≤ arr.size := by
  obtain ⟨i, hi, hib⟩ := fewBytes_some hf
  have hH' : HR p φ H w.drew := hH.drew
  let extra := (w.tape w.drawn (Question.appendCap (len + n) rcap e)) % (2 ^ 63 - (len + n))
  have hcut : (Question.appendCap (len + n) rcap e).cut (w.tape w.drawn (Question.appendCap (len + n) rcap e)) = len + n + extra := rfl
  have hforced : (Question.appendCap (len + n) rcap e).forced = false := rfl
  obtain ⟨ov, ho1, ho2⟩ := hold _ hH'
  obtain ⟨nv, hn1, hn2⟩ := firstCells_sound hH' hx hnew
  unfold zeroLen at hz
  cases hzo : zeroOf p e with
  | none => rw [hzo] at hz; cases hz
  | some z =>
  rw [hzo] at hz
  have hz' : z.cells.length = size := Nat.eq_of_beq_eq_true hz
  obtain ⟨z', hz1, hz2⟩ := zeroOf_world hzo
  have hzs : z'.cells.size = size := by
    have := (hz2 φ).cells.length
    rw [← Array.length_toList]; omega
  have hask : ∀ k w, (askRoom k).run p w = .ok () w := by
    intro k w; unfold askRoom; split <;> rfl
  refine ⟨ov.toList ++ nv.toList, (Builtin.zeroCells z'.cells extra).toList, extra, ov ++ nv ++ Builtin.zeroCells z'.cells extra, ?_, by simp, ho2.append hn2, ?_⟩
  · subst hs
    have hbig : ¬ (281474976710656 < Builtin.nextslicecap (len + n) rcap * i.bytes) := by
      have h1 := nextslicecap_le (need := len + n) (cap := rcap) (B := 100000) (by omega) (by omega)
      have h2 : Builtin.nextslicecap (len + n) rcap * i.bytes ≤ (16 * (100000 + 768)) * 1000000 := Nat.mul_le_mul h1 (by omega)
      omega
    have h63' : ¬ (9223372036854775807 < ((len : Int) + (n : Int))) := by omega
    have hn : ¬ (len + n ≤ rcap) := by omega
    obtain ⟨tx, h1, hk⟩ := noCount_some hc
    have hsz' : i.size = size := by
      obtain ⟨i', hi', e⟩ := sizeOf_info hsz
      rw [hi] at hi'; cases hi'; exact e
    rcases hk with ⟨e', hk⟩ | hk <;>
      (simp only [Builtin.append_, h0, h1]
       simp [run_underlying ht, run_underlying hk, Go.sizeOf, typeInfo, hi, hl, hn, h63', hbig, hsz', hforced, hcut, ho1, hn1, hz1, run_newRow])
  · have hl1 := ho2.length
    have hl2 := hn2.length
    have : (ov ++ nv ++ Builtin.zeroCells z'.cells extra).size = ov.size + nv.size + extra * size := by
      rw [Array.size_append, Array.size_append]; unfold Builtin.zeroCells; rw [Array.size_map, Array.size_range, hzs]
    rw [this]
    simp at hl1 hl2
    simp [List.length_append]
    omega

/-- Blocks let go. -/
theorem HR.kill {H : Heap} {w : World} (h : HR p φ H w) (b : Nat) : HR p φ (H.kill b) w ∧ Step φ H w φ (H.kill b) w := by
  refine ⟨⟨fun c k hc => h.live c k (Heap.get_kill_some hc).2, fun c c' k k' r x x' h1 h2 => h.inj c c' k k' r x x' (Heap.get_kill_some h1).2 (Heap.get_kill_some h2).2, fun c r x e => by rw [Heap.n_kill]; exact h.dom c r x e, h.glob⟩,
    ⟨Phi.le_refl _, by rw [Heap.n_kill]; exact Nat.le_refl _, Nat.le_refl _, fun _ _ _ => rfl, fun c k r x hc hr => .inr ⟨c, k, x, (Heap.get_kill_some hc).2, hr, id⟩, rfl, rfl, rfl, fun _ _ h => .inl h⟩⟩

theorem appendGrown {H H0 : Heap} {w : World} (hH : HR p φ H w) (hst : HR p φ H0 w ∧ Step φ H w φ H0 w) {r' rest : List Value} {arr : Array Value} {e : TypeId} {size need extra : Nat} {cs : List AV} (hsz : Go.Shadow.sizeOf p e = some size)
    (ha : arr.toList = r' ++ rest) (hc : VRs φ cs r') (hx : cs.length + extra * size ≤ arr.size) :
    ∃ φ', VR φ' (.sl H0.n 0 need need false) (.slice (some ⟨w.heap.size, 0, none⟩) need (need + extra)) ∧ HR p φ' (newCells H0 cs e) (w.drew.alloc (.cells arr e)) ∧ Step φ H w φ' (newCells H0 cs e) (w.drew.alloc (.cells arr e)) := by
  obtain ⟨g1, g2⟩ := newCells_sound (x := extra) (hst.1.drew (k := w.drawn + 1)) ha hc (fun n hn => by rw [hsz] at hn; cases hn; exact hx)
  refine ⟨_, .slo 0 need need Phi.add_same, g1, hst.2.trans ?_⟩
  exact ⟨g2.le, g2.n, g2.size, g2.frame, g2.own, g2.os, g2.output, g2.tape, g2.fresh⟩

end
end Go.Shadow
namespace Go.Shadow
section
variable {p : Program} {φ : Phi} {s : St} {ρ : Operand → Value} {o : Oper}

theorem beq_eq {a b : Nat} (h : Nat.beq a b = true) : a = b := Nat.eq_of_beq_eq_true h

/-- Appended in the old block, which had room beyond what was known of it. -/
theorem appendReuse {H : Heap} {w : World} (hH : HR p φ H w) {b r x cap len n size : Nat} {c old new : List AV} {e : TypeId} {nv : List Value} (hk : H.get b = some (.cells c e true)) (hφ : φ b = some (r, x))
    (hsz : Go.Shadow.sizeOf p e = some size) (hcap : cap * size = c.length) (hfit : len + n ≤ cap + x) (hold : takeN 0 (len * size) c = some old) (hnew : VRs φ new nv) (hnl : nv.length = n * size) (hone : oneAll new = true) :
    ∃ w' φ', (Go.storeCells ⟨r, len * size, none⟩ nv 0).run p w = .ok () w' ∧ φ' H.n = some (r, cap + x - (len + n)) ∧ HR p φ' (newCells (H.kill b) (old ++ new) e) w' ∧ Step φ H w φ' (newCells (H.kill b) (old ++ new) e) w' := by
  obtain ⟨r0, x0, arr, fr, c', rest, e1, e2, e3, e4, e5, e6⟩ := hH.cells hk
  rw [hφ] at e1; cases e1
  have hx := e6 size hsz
  have hmul : (len + n) * size ≤ (cap + x) * size := Nat.mul_le_mul_right _ hfit
  rw [Nat.add_mul, Nat.add_mul] at hmul
  obtain ⟨rfl, hle⟩ := takeN_eq _ _ _ _ hold
  have hlen := e4.length
  have hr : r < w.heap.size := (Array.getElem?_eq_some_iff.1 e2).1
  obtain ⟨arr', hrun, hl⟩ := run_storeCells (p := p) (φ := φ) (e := e) (fr := fr) (off := len * size) new nv w arr 0 hnew hone e2 (e5 rfl) (by omega)
  have hnone := hH.none (Nat.le_refl H.n)
  have hle' : Phi.le φ (φ.add H.n (r, cap + x - (len + n))) := Phi.le_add hnone
  have hsz' : arr'.size = arr.size := by
    rw [← Array.length_toList, hl]
    simp only [List.length_append, List.length_take, List.length_drop, Array.length_toList]
    omega
  have hb : ∀ ψ, Phi.le φ ψ → BR p ψ (cap + x - (len + n)) (.cells (List.take (len * size) (List.drop 0 c) ++ new) e true) (.cells arr' e fr) := by
    intro ψ hψ
    refine .cells (c' := c'.take (len * size) ++ nv) (rest := arr.toList.drop (len * size + 0 + nv.length)) ?_ ?_ (fun _ => by rw [hsz']; exact e5 rfl) (fun m hm => ?_)
    · rw [hl, e3, Nat.add_zero, List.take_append_of_le_length (by omega)]
    · exact ((e4.take (len * size)).append hnew).mono hψ
    · rw [hsz] at hm; cases hm
      rw [hsz', List.length_append, List.length_take, List.drop_zero]
      have h1 := hnew.length
      have h2 : (cap + x - (len + n)) * size = (cap + x) * size - (len + n) * size := Nat.sub_mul _ _ _
      rw [h2, Nat.add_mul, Nat.add_mul]
      omega
  let w' : World := { w with heap := w.heap.setIfInBounds r (.cells arr' e fr) }
  have hother : ∀ c1 k1, (newCells (H.kill b) (List.take (len * size) (List.drop 0 c) ++ new) e).get c1 = some k1 → c1 ≠ H.n → c1 ≠ b ∧ H.get c1 = some k1 := by
    intro c1 k1 h1 hne
    exact Heap.get_kill_some (Heap.get_new_ne (by rw [Heap.n_kill]; exact hne) h1)
  have hrne : ∀ c1 k1 x1, c1 ≠ b → H.get c1 = some k1 → φ c1 ≠ some (r, x1) := fun c1 k1 x1 hne h1 h2 => hne (hH.inj c1 b _ _ r x1 x h1 hk h2 hφ)
  have hself : (newCells (H.kill b) (List.take (len * size) (List.drop 0 c) ++ new) e).get H.n = some (.cells (List.take (len * size) (List.drop 0 c) ++ new) e true) := by
    have := Heap.get_new (H := H.kill b) (k := .cells (List.take (len * size) (List.drop 0 c) ++ new) e true)
    rw [Heap.n_kill] at this; exact this
  refine ⟨w', φ.add H.n (r, cap + x - (len + n)), hrun, Phi.add_same, ⟨fun c1 k1 h1 => ?_, fun c1 c2 k1 k2 r1 x1 x2 h1 h2 g1 g2 => ?_, fun c1 r1 x1 g => ?_, fun g hg => ?_⟩, ⟨hle', ?_, by simp [w'], fun r1 hr1 hun => ?_, fun c1 k1 r1 x1 h1 g => ?_, rfl, rfl, rfl, fun c1 y1 g => (Classical.em (c1 = H.n)).elim (fun hc => .inr (by omega)) (fun hc => .inl (by rw [Phi.add_ne hc] at g; exact g))⟩⟩
  · by_cases hc : c1 = H.n
    · subst hc
      rw [hself] at h1; cases h1
      exact ⟨r, _, _, Phi.add_same, by simp [w', hr], hb _ hle'⟩
    · obtain ⟨g1, g2⟩ := hother c1 k1 h1 hc
      obtain ⟨r1, y, o1, f1, f2, f3⟩ := hH.live c1 k1 g2
      have hne : r ≠ r1 := fun h => hrne c1 k1 y g1 g2 (h ▸ f1)
      exact ⟨r1, y, o1, hle' _ _ f1, by simpa [w', Array.getElem?_setIfInBounds_ne hne] using f2, f3.mono hle'⟩
  · by_cases h3 : c1 = H.n
    · by_cases h4 : c2 = H.n
      · rw [h3, h4]
      · obtain ⟨f1, f2⟩ := hother c2 k2 h2 h4
        rw [Phi.add_ne h4] at g2
        rw [h3, Phi.add_same] at g1; cases g1
        exact absurd g2 (hrne c2 k2 x2 f1 f2)
    · obtain ⟨f1, f2⟩ := hother c1 k1 h1 h3
      rw [Phi.add_ne h3] at g1
      by_cases h4 : c2 = H.n
      · rw [h4, Phi.add_same] at g2; cases g2
        exact absurd g1 (hrne c1 k1 x1 f1 f2)
      · obtain ⟨f3, f4⟩ := hother c2 k2 h2 h4
        rw [Phi.add_ne h4] at g2
        exact hH.inj c1 c2 k1 k2 r1 x1 x2 f2 f4 g1 g2
  · have hn : (newCells (H.kill b) (List.take (len * size) (List.drop 0 c) ++ new) e).n = H.n + 1 := by
      unfold newCells; rw [Heap.n_new, Heap.n_kill]
    rw [hn]
    by_cases h3 : c1 = H.n
    · subst h3
      rw [Phi.add_same] at g; cases g
      exact ⟨by omega, by simpa [w'] using hr⟩
    · rw [Phi.add_ne h3] at g
      have := hH.dom _ _ _ g
      exact ⟨by omega, by simpa [w'] using this.2⟩
  · obtain ⟨y, hy⟩ := hH.glob g hg
    exact ⟨y, hle' _ _ hy⟩
  · unfold newCells; rw [Heap.n_new, Heap.n_kill]; omega
  · have hne : r ≠ r1 := fun h => hun b _ x hk rfl (h ▸ hφ)
    simp [w', Array.getElem?_setIfInBounds_ne hne]
  · by_cases h3 : c1 = H.n
    · subst h3
      rw [Phi.add_same] at g; cases g
      exact .inr ⟨b, _, x, hk, hφ, fun _ => rfl⟩
    · obtain ⟨f1, f2⟩ := hother c1 k1 h1 h3
      rw [Phi.add_ne h3] at g
      exact .inr ⟨c1, k1, x1, f2, g, id⟩

/-- There is room. -/
theorem run_append_room {w w' : World} {ts : Array TypeId} {ty t e : TypeId} {size n len rcap r off : Nat} {xv : Value} {nv : Array Value}
    (h0 : ts[0]? = some t) (ht : p.underlying t = some (.slice e)) (hsz : Go.Shadow.sizeOf p e = some size) (hc : noCount p ts = true) (hl : ∀ w, (Builtin.lenOf xv).run p w = .ok n w)
    (hn : (Builtin.firstCells size n xv).run p w = .ok nv w) (hroom : len + n ≤ rcap) (hst : (Go.storeCells ⟨r, off + len * size, none⟩ nv.toList 0).run p w = .ok () w') :
    (Builtin.append_ ts ty #[.slice (some ⟨r, off, none⟩) len rcap, xv]).run p w = .ok (.slice (some ⟨r, off, none⟩) (len + n) rcap) w' := by
  obtain ⟨tx, h1, hk⟩ := noCount_some hc
  obtain ⟨i, hi, hsi⟩ := sizeOf_info hsz
  rcases hk with ⟨e', hk⟩ | hk <;>
    (simp only [Builtin.append_, h0, h1]
     simp [run_underlying ht, run_underlying hk, Go.sizeOf, typeInfo, hi, hl, hroom, hsi, hn, addr_add, hst])

theorem firstCells_length {H : Heap} {size n : Nat} {x : AV} {cs : List AV} (hn : lenOf x = some n) (h : firstCells H size n x = some cs) : cs.length = n * size := by
  unfold firstCells at h
  split at h
  · obtain ⟨k, h2, h3⟩ := oB_some h
    obtain ⟨c, h4, h5⟩ := oB_some h3
    obtain ⟨rfl, hle⟩ := takeN_eq _ _ _ _ h5
    simp; omega
  · obtain ⟨h2, h3⟩ := guardB_some h
    cases h3
    simp [beq_eq h2]
  · obtain ⟨h0, h⟩ := guardB_some h
    obtain ⟨l, h2, rfl⟩ := oM_some h
    obtain ⟨rfl, hle⟩ := firstN_eq _ _ _ h2
    rw [beq_eq h0]
    simp [byteCells]; omega
  · cases h

/-- What a builtin gives, of two values. -/
def Gives (φ : Phi) (p : Program) (H : Heap) (w : World) (m : Sem Value) (r : ORes) : Prop :=
  ∃ v' w' φ', m.run p w = .ok v' w' ∧ VR φ' r.val v' ∧ HR p φ' (r.heap H) w' ∧ Step φ H w φ' (r.heap H) w'

theorem storeCells_of_ok {H H' : Heap} {b off : Nat} {vs : List AV} (h : storeCells H b off vs = some H') : vs = [] ∨ oneAll vs = true := by
  cases vs with
  | nil => exact .inl rfl
  | cons v l => exact .inr (guardB_some (show guardB (oneAll (v :: l)) (oB (H.get b) (storeIn H b off (v :: l))) = some H' from h)).1

theorem append_sound {H : Heap} {w : World} {ts : Array TypeId} {ty t : TypeId} {sa x : AV} {s' x' : Value} {r : ORes} (hH : HR p φ H w) (hs : VR φ sa s') (hx : VR φ x x') (h0 : ts[0]? = some t) (h : append p H ts t sa x = some r) :
    Gives φ p H w (Builtin.append_ ts ty #[s', x']) r := by
  obtain ⟨e, h1, h2⟩ := oB_some h
  obtain ⟨size, h3, h4⟩ := oB_some h2
  obtain ⟨n, h5, h6⟩ := oB_some h4
  obtain ⟨h7, h8⟩ := guardB_some h6
  obtain ⟨new, h9, h10⟩ := oB_some h8
  simp only [Bool.and_eq_true] at h7
  obtain ⟨⟨⟨hpos, hf⟩, hz⟩, hc⟩ := h7
  have ht := elemOf_slice h1
  have hl := fun w => lenOf_sound (p := p) (w := w) hx h5
  have hnl := firstCells_length h5 h9
  obtain ⟨nv, hn1, hn2⟩ := firstCells_sound hH hx h9
  have hnv : nv.toList.length = n * size := by rw [← hn2.length]; exact hnl
  unfold appendX at h10
  split at h10
  · -- nil
    have es := hs.nilsl_inv
    cases n with
    | zero =>
      cases h10
      obtain ⟨tx, h1', hk⟩ := noCount_some hc
      obtain ⟨i, hi, hsi⟩ := sizeOf_info h3
      refine ⟨.slice none 0 0, w, φ, ?_, .nilsl, hH, Step.refl _ _ _⟩
      rw [es]
      rcases hk with ⟨e', hk⟩ | hk <;>
        (simp only [Builtin.append_, h0, h1']
         simp [run_underlying ht, run_underlying hk, Go.sizeOf, typeInfo, hi, hl, hsi, hn1])
    | succ n =>
      obtain ⟨h11, h12⟩ := guardB_some (show guardB (Nat.blt n 10000) (some (.vh (.sl H.n 0 (n + 1) (n + 1) false) (newCells H new e))) = some r from h10)
      cases h12
      have hb := blt_lt h11
      obtain ⟨r', rest, extra, arr, g1, g2, g3, g4⟩ := run_append_grow (ty := ty) (len := 0) (rcap := 0) (sv := s') (s' := none) (olds := []) hH h0 ht es h3 hf hz hc hl hx h9
        (fun w _ => ⟨#[], by rw [es]; rfl, .nil⟩) (by omega) (by omega) (by simp) hnl
      simp only [Nat.zero_add, List.nil_append] at g1 g3 g4
      obtain ⟨φ', f1, f2, f3⟩ := appendGrown (need := n + 1) hH ⟨hH, Step.refl _ _ _⟩ h3 g2 g3 g4
      exact ⟨_, _, φ', g1, f1, f2, f3⟩
  · -- a slice
    rename_i b off len cap ex
    obtain ⟨q, y, e1, e2⟩ := hs.sl_inv
    unfold appendSl at h10
    split at h10
    · rename_i hle
      have hle' := ble_le hle
      obtain ⟨H', h11, rfl⟩ := oM_some h10
      obtain ⟨w', g1, g2, g3⟩ := storeCells_sound hH e1 hn2 h11
      refine ⟨.slice (some ⟨q, off, none⟩) (len + n) (if ex = true then cap else cap + y), w', φ, ?_, VR.slice_of e1, g2, g3⟩
      rw [e2]
      exact run_append_room h0 ht h3 hc hl hn1 (by split <;> omega) g1
    · rename_i hle
      have hgt : cap < len + n := by
        have : ¬ (len + n ≤ cap) := fun h => by
          have := Nat.ble_eq_true_of_le h
          rw [hle] at this; cases this
        omega
      obtain ⟨h11, h12⟩ := guardB_some h10
      have hlt := blt_lt h11
      obtain ⟨k, h13, h14⟩ := oB_some h12
      unfold growB at h14
      split at h14
      · rename_i c e' wr
        obtain ⟨old, h15, h16⟩ := oB_some h14
        have hload : loadCells H b off (len * size) = some old := by
          show oB (H.get b) (fun k => oB (blkCells k) (takeN off (len * size))) = _
          rw [h13]; exact h15
        have hold : ∀ w, HR p φ H w → ∃ vs, (Builtin.firstCells size len s').run p w = .ok vs w ∧ VRs φ old vs.toList := fun w hw => by
          rw [e2]; exact loadCells_sound hw e1 hload
        have holen : old.length = len * size := by
          obtain ⟨rfl, hle⟩ := takeN_eq _ _ _ _ h15
          simp; omega
        split at h16
        · -- exact
          cases h16
          simp only [if_true] at e2
          obtain ⟨r', rest, extra, arr, g1, g2, g3, g4⟩ := run_append_grow (ty := ty) hH h0 ht e2 h3 hf hz hc hl hx h9 hold hgt hlt holen hnl
          obtain ⟨φ', f1, f2, f3⟩ := appendGrown (need := len + n) hH ⟨hH, Step.refl _ _ _⟩ h3 g2 g3 g4
          exact ⟨_, _, φ', g1, f1, f2, f3⟩
        · -- open
          obtain ⟨h17, h18⟩ := guardB_some h16
          cases h18
          simp only [Bool.and_eq_true] at h17
          obtain ⟨⟨⟨⟨hwr, hee⟩, hoff⟩, hcp⟩, hone⟩ := h17
          have hee' := beq_eq hee
          have hoff' := beq_eq hoff
          have hcp' := beq_eq hcp
          subst hee'; subst hoff'
          have hwr' : wr = true := hwr
          subst hwr'
          simp only [Bool.false_eq_true, if_false] at e2
          by_cases hfit : len + n ≤ cap + y
          · obtain ⟨w', φ', g1, g2, g3, g4⟩ := appendReuse hH h13 e1 h3 hcp' hfit h15 hn2 hnv hone
            refine ⟨.slice (some ⟨q, 0, none⟩) (len + n) (cap + y), w', φ', ?_, ?_, g3, g4⟩
            · rw [e2]
              exact run_append_room h0 ht h3 hc hl hn1 hfit (by rw [Nat.zero_add]; exact g1)
            · have := VR.slo (φ := φ') 0 (len + n) (len + n) g2
              have e5 : len + n + (cap + y - (len + n)) = cap + y := by omega
              rw [e5] at this
              exact this
          · obtain ⟨r', rest, extra, arr, g1, g2, g3, g4⟩ := run_append_grow (ty := ty) hH h0 ht e2 h3 hf hz hc hl hx h9 hold (by omega) hlt holen hnl
            have hk := hH.kill b
            obtain ⟨φ', f1, f2, f3⟩ := appendGrown (need := len + n) hH hk h3 g2 g3 g4
            rw [Heap.n_kill] at f1
            exact ⟨_, _, φ', g1, f1, f2, f3⟩
      · cases h14
  · cases h10

theorem copy_sound {H : Heap} {w : World} {ts : Array TypeId} {ty t : TypeId} {d x : AV} {d' x' : Value} {r : ORes} (hH : HR p φ H w) (hd : VR φ d d') (hx : VR φ x x') (h0 : ts[0]? = some t) (h : copy p H t d x = some r) :
    Gives φ p H w (Builtin.copy_ ts ty #[d', x']) r := by
  obtain ⟨e, h1, h2⟩ := oB_some h
  obtain ⟨size, h3, h4⟩ := oB_some h2
  obtain ⟨a, h5, h6⟩ := oB_some h4
  obtain ⟨b, h7, h8⟩ := oB_some h6
  obtain ⟨cs, h9, h10⟩ := oB_some h8
  have ht := elemOf_slice h1
  have hl := lenOf_sound (p := p) (w := w) hx h5
  obtain ⟨nv, hn1, hn2⟩ := firstCells_sound hH hx h9
  unfold copyTo at h10
  split at h10
  · obtain ⟨q, y, e1, e2⟩ := hd.sl_inv
    rename_i b0 off len cap ex
    obtain ⟨H', h11, rfl⟩ := oM_some h10
    obtain ⟨w', g1, g2, g3⟩ := storeCells_sound hH e1 hn2 h11
    have e7 : len = b := Option.some.inj h7
    subst e7
    refine ⟨goInt (Nat.min a len), w', φ, ?_, .int _ _, g2, g3⟩
    rw [e2]
    unfold Builtin.copy_
    simp [h0, run_underlying ht, hl, run_sizeOf h3, hn1, g1]
  · cases h10
    have e7 : 0 = b := Option.some.inj h7
    subst e7
    have e0 : Nat.min a 0 = 0 := Nat.min_zero a
    rw [e0] at hn1
    rw [hd.nilsl_inv]
    refine ⟨goInt (Nat.min a 0), w, φ, ?_, .int _ _, hH, Step.refl _ _ _⟩
    unfold Builtin.copy_
    simp [h0, run_underlying ht, hl, run_sizeOf h3, hn1]
  · cases h10

end
end Go.Shadow
namespace Go.Shadow
section
variable {p : Program} {φ : Phi} {s : St} {ρ : Operand → Value} {o : Oper}

/-! ### Builtins -/
theorem exec_builtin {b : Builtin} {c : Call} {w : World} (ho : o.op = .call c) (hc : c.callee = .builtin b) :
    (execOp ρ o).run p w = (Go.builtin b c.argTypes o.type (c.args.map fun | .const _ => true | _ => false) (c.args.map ρ)).run p w := by
  unfold execOp; rw [ho]
  simp only [resolve, hc, Sem.run_bind, Sem.run_pure, Result.andThen_ok, invoke]
  rfl

theorem arg1_some {f : AV → Option ORes} {l : List AV} {r : ORes} (h : arg1 f l = some r) : ∃ x, l = [x] ∧ f x = some r := by
  unfold arg1 at h; split at h
  · exact ⟨_, rfl, h⟩
  · cases h
theorem arg2_some {f : AV → AV → Option ORes} {l : List AV} {r : ORes} (h : arg2 f l = some r) : ∃ x y, l = [x, y] ∧ f x y = some r := by
  unfold arg2 at h; split at h
  · exact ⟨_, _, rfl, h⟩
  · cases h
theorem args1 {x : AV} {a : Array Value} (h : VRs φ [x] a.toList) : ∃ x', a = #[x'] ∧ VR φ x x' := by
  generalize e : a.toList = l at h
  cases h with
  | cons h1 h2 => cases h2; exact ⟨_, by apply Array.ext'; simpa using e, h1⟩
theorem args2 {x y : AV} {a : Array Value} (h : VRs φ [x, y] a.toList) : ∃ x' y', a = #[x', y'] ∧ VR φ x x' ∧ VR φ y y' := by
  generalize e : a.toList = l at h
  cases h with
  | cons h1 h2 => cases h2 with
    | cons h3 h4 => cases h4; exact ⟨_, _, by apply Array.ext'; simpa using e, h1, h3⟩
theorem ty0_some {ts : Array TypeId} {f : TypeId → Option ORes} {r : ORes} (h : ty0 ts f = some r) : ∃ t, ts[0]? = some t ∧ f t = some r := oB_some h

theorem okV_some {x : Option AV} {r : ORes} (h : okV x = some r) : ∃ v, r = .v v ∧ x = some v := by
  obtain ⟨v, h1, h2⟩ := oM_some (show oM ORes.v x = some r from h); exact ⟨v, h2.symm, h1⟩

/-- A sem that gives a value in whatever world. -/
def Still (φ : Phi) (p : Program) (m : Sem Value) (v : AV) : Prop := ∃ v', (∀ w, m.run p w = .ok v' w) ∧ VR φ v v'
def isMapD : TypeDesc → Bool | .map _ _ => true | _ => false

theorem len_still {H : Heap} {ts : Array TypeId} {ty t : TypeId} {d : TypeDesc} {x : AV} {x' : Value} {v : AV} (hx : VR φ x x') (h0 : ts[0]? = some t) (ht : p.underlying t = some d) (hd : isMapD d = false) (h : lenD H x d = some v) :
    Still φ p (Builtin.len_ ts ty #[x']) v := by
  have e1 : (#[x'] : Array Value)[0]? = some x' := rfl
  cases d <;> simp only [lenD] at h
  case string =>
    cases x <;> first | (cases h; done) | skip
    rename_i l
    cases h
    obtain ⟨u, rfl, rfl⟩ := hx.str_inv
    refine ⟨goInt u.size, fun w => by unfold Builtin.len_; simp [h0, run_underlying ht], ?_⟩
    have : (u.data.toList.map UInt8.toNat).length = u.size := by simp
    rw [this]; exact .int _ _
  case array n e => cases h; exact ⟨goInt n, fun w => by unfold Builtin.len_; simp [h0, run_underlying ht], .int _ _⟩
  case slice e =>
    cases x <;> first | (cases h; done) | skip
    · cases h
      obtain ⟨r, y, e1, rfl⟩ := hx.sl_inv
      exact ⟨goInt _, fun w => by unfold Builtin.len_; simp [h0, run_underlying ht], .int _ _⟩
    · cases h
      rw [hx.nilsl_inv]
      exact ⟨goInt 0, fun w => by unfold Builtin.len_; simp [h0, run_underlying ht], .int _ _⟩
  case map => cases hd
  all_goals cases h

theorem ERs.length : ∀ {l : List (AV × AV × Nat)} {l' : List MapEntry}, ERs φ l l' → l.length = l'.length
  | _, _, .nil => rfl
  | _, _, .cons _ t => by simp [t.length]

theorem len_map {H : Heap} {w : World} {ts : Array TypeId} {ty t k e : TypeId} {x : AV} {x' : Value} {v : AV} (hH : HR p φ H w) (hx : VR φ x x') (h0 : ts[0]? = some t) (ht : p.underlying t = some (.map k e)) (h : lenD H x (.map k e) = some v) :
    ∃ v', (Builtin.len_ ts ty #[x']).run p w = .ok v' w ∧ VR φ v v' := by
  have e1 : (#[x'] : Array Value)[0]? = some x' := rfl
  cases x <;> first | (cases h; done) | skip
  · rename_i b
    obtain ⟨es, h1, rfl⟩ := oM_some (show mapLen H b = some v from h)
    obtain ⟨r, y, e2, rfl⟩ := hx.mp_inv
    obtain ⟨r', y', es', clock, e3, e4, e5⟩ := hH.map h1
    rw [e2] at e3; cases e3
    refine ⟨goInt es'.size, by unfold Builtin.len_; simp [h0, run_underlying ht, run_getObj_map e4], ?_⟩
    have := e5.elim (fun e => e.length) (fun e => e.1)
    rw [this, Array.length_toList]; exact .int _ _
  · cases h
    rw [hx.nilmp_inv]
    exact ⟨goInt 0, by unfold Builtin.len_; simp [h0, run_underlying ht], .int _ _⟩

theorem run_sliceData {w : World} {ts : Array TypeId} {ty : TypeId} {a : Addr} {n c : Nat} (h : c ≠ 0) : (Builtin.unsafeSliceData_ ts ty #[.slice (some a) n c]).run p w = .ok (.pointer (some a)) w := by
  have e : Builtin.unsafeSliceData_ ts ty #[.slice (some a) n c] = (if c ≠ 0 then pure (.pointer (some a)) else do
    if (← viewAt a.block).isSome then pure (.pointer (some a))
    else pure (.pointer (some ⟨← newObj (.view a (← Go.elemOf ty)), 0, none⟩))) := rfl
  rw [e, if_pos h]; rfl

theorem sliceData_still {ts : Array TypeId} {ty : TypeId} {x : AV} {x' : Value} {v : AV} (hx : VR φ x x') (h : sliceData x = some v) : Still φ p (Builtin.unsafeSliceData_ ts ty #[x']) v := by
  unfold sliceData at h
  split at h
  · cases h
    obtain ⟨r, y, e1, rfl⟩ := hx.sl_inv
    refine ⟨.pointer (some ⟨r, _, none⟩), fun w => ?_, .ptr _ e1⟩
    exact run_sliceData (by split <;> omega)
  · cases h

theorem max_still {ts : Array TypeId} {ty : TypeId} {x y : AV} {x' y' : Value} {v : AV} (hx : VR φ x x') (hy : VR φ y y') (h : maxOf x y = some v) : Still φ p (Builtin.max_ ts ty #[x', y']) v := by
  unfold maxOf at h
  split at h
  · rename_i k a k' b
    obtain ⟨h1, h2⟩ := guardB_some h
    cases kindEq_eq h1
    cases h2
    rw [hx.int_inv, hy.int_inv]
    refine ⟨.int k (if b > a then b else a), fun w => by simp [Builtin.max_, Builtin.max2], ?_⟩
    rw [ltI_eq]
    by_cases hab : a < b
    · simp [hab]; exact .int _ _
    · simp [hab]; exact .int _ _
  · cases h
theorem min_still {ts : Array TypeId} {ty : TypeId} {x y : AV} {x' y' : Value} {v : AV} (hx : VR φ x x') (hy : VR φ y y') (h : minOf x y = some v) : Still φ p (Builtin.min_ ts ty #[x', y']) v := by
  unfold minOf at h
  split at h
  · rename_i k a k' b
    obtain ⟨h1, h2⟩ := guardB_some h
    cases kindEq_eq h1
    cases h2
    rw [hx.int_inv, hy.int_inv]
    refine ⟨.int k (if b < a then b else a), fun w => by simp [Builtin.min_, Builtin.min2], ?_⟩
    rw [ltI_eq]
    by_cases hab : b < a
    · simp [hab]; exact .int _ _
    · simp [hab]; exact .int _ _
  · cases h

/-! ### Bytes as a string -/
theorem rowAt_mono {fits : TypeId → Bool} : ∀ (d : Nat) {e : TypeId} {count count' off n : Nat}, count ≤ count' → rowAt p fits d e count off n = true → rowAt p fits d e count' off n = true
  | 0, _, _, _, _, _, _, h => by simp [rowAt] at h
  | d + 1, e, count, count', off, n, hle, h => by
    unfold rowAt at h ⊢
    simp only at h ⊢
    split at h
    · cases h
    · rename_i hs
      rw [if_neg hs]
      simp only [Bool.or_eq_true, Bool.and_eq_true, decide_eq_true_eq] at h ⊢
      rcases h with ⟨⟨h1, h2⟩, h3⟩ | ⟨h1, h2⟩
      · exact .inl ⟨⟨h1, by omega⟩, h3⟩
      · exact .inr ⟨by omega, h2⟩
theorem liesAt_mono : ∀ (d : Nat) {e u : TypeId} {count count' off n : Nat}, count ≤ count' → liesAt p d e count off u n = true → liesAt p d e count' off u n = true
  | 0, _, _, _, _, _, _, _, h => by simp [liesAt] at h
  | d + 1, e, u, count, count', off, n, hle, h => by
    unfold liesAt at h ⊢
    simp only [Bool.or_eq_true] at h ⊢
    rcases h with h | h
    · exact .inl (rowAt_mono _ hle h)
    · refine .inr ?_
      split at h
      · exact liesAt_mono d hle h
      · cases h

theorem run_shape {w : World} {r : Nat} {arr : Array Value} {e : TypeId} {fr : Nat × Nat} (h : w.heap[r]? = some (.cells arr e fr)) : (shape r).run p w = .ok (some (e, arr.size)) w := by
  simp [shape, Sem.run, World.shape?, h]

theorem run_variablesAt {w : World} {r off n : Nat} {u : TypeId} {arr : Array Value} {e : TypeId} {fr : Nat × Nat} {c : List AV} (h : w.heap[r]? = some (.cells arr e fr)) (hc : c.length ≤ arr.size) (hl : liesA p e c off u n = true) :
    (variablesAt ⟨r, off, none⟩ u n).run p w = .ok true w := by
  unfold variablesAt
  have h2 : Nat.div c.length (p.cellsOf e) ≤ arr.size / p.cellsOf e := Nat.div_le_div_right hc
  have h1 : liesAt p p.depth e (arr.size / p.cellsOf e) off u n = true := liesAt_mono _ h2 hl
  simp [World.shape?, h, h1]

theorem run_loadBytes {w : World} {r : Nat} {arr : Array Value} {e : TypeId} {fr : Nat × Nat} (h : w.heap[r]? = some (.cells arr e fr)) : ∀ (n off : Nat) (acc : ByteArray) (cs : List AV) (bs : List Nat),
    VRs φ cs ((arr.toList.drop off).take n) → cs.length = n → bytesOfCells cs = some bs →
    ∃ u : ByteArray, (Go.loadBytes ⟨r, off, none⟩ acc n).run p w = .ok u w ∧ u.data.toList.map UInt8.toNat = acc.data.toList.map UInt8.toNat ++ bs
  | 0, off, acc, cs, bs, hv, hl, hb => by
    have : cs = [] := List.eq_nil_of_length_eq_zero hl
    subst this
    cases hb
    exact ⟨acc, rfl, by simp⟩
  | n + 1, off, acc, [], bs, hv, hl, hb => by simp at hl
  | n + 1, off, acc, c :: cs, bs, hv, hl, hb => by
    generalize hd : (arr.toList.drop off).take (n + 1) = row at hv
    cases hv with
    | @cons _ v' _ row' h1 h2 =>
    have hlt : off < arr.size := by
      have : 0 < ((arr.toList.drop off).take (n + 1)).length := by rw [hd]; simp
      simp at this; omega
    have he : arr.toList.drop off = arr[off] :: arr.toList.drop (off + 1) := by
      rw [List.drop_eq_getElem_cons (by simpa using hlt)]; simp
    rw [he, List.take_succ_cons] at hd
    obtain ⟨rfl, rfl⟩ := List.cons.inj hd
    unfold bytesOfCells at hb
    split at hb
    · cases ‹c :: cs = []›
    · rename_i m l heq
      obtain ⟨rfl, rfl⟩ := List.cons.inj heq
      obtain ⟨h3, h4⟩ := guardB_some hb
      obtain ⟨bs', h5, rfl⟩ := oM_some h4
      have hv := h1.int_inv
      have hcell : w.cell? ⟨r, off, none⟩ = some (.int .u8 (Int.ofNat m)) := by rw [cell_of_get h]; simp [hlt, hv]
      obtain ⟨u, g1, g2⟩ := run_loadBytes h n (off + 1) (acc.push (Int.ofNat m).toNat.toUInt8) cs bs' h2 (by simpa using hl) h5
      refine ⟨u, ?_, ?_⟩
      · unfold Go.loadBytes
        simp only [Sem.run_bind, run_load, hcell, Result.andThen_ok]
        rw [addr_add]; exact g1
      · rw [g2]
        have hm := blt_lt h3
        have e1 : ((Int.ofNat m).toNat.toUInt8).toNat = m := by
          show (m.toUInt8).toNat = m
          simp; omega
        have e2 : (acc.push (Int.ofNat m).toNat.toUInt8).data = acc.data.push (Int.ofNat m).toNat.toUInt8 := rfl
        rw [e2, Array.toList_push, List.map_append, List.append_assoc, List.map_cons, e1]; rfl
    · cases hb

theorem freeze_eq {w : World} {r off n : Nat} {arr : Array Value} {e : TypeId} {fr : Nat × Nat} (h : w.heap[r]? = some (.cells arr e fr)) (hn : n ≠ 0) :
    ∃ fr', w.freeze ⟨r, off, none⟩ n = { w with heap := w.heap.setIfInBounds r (.cells arr e fr') } := by
  obtain ⟨lo, hi⟩ := fr
  refine ⟨if lo == hi then (off, off + n) else (min lo off, max hi (off + n)), ?_⟩
  unfold World.freeze
  rw [if_neg hn]
  congr 1
  apply Array.ext_getElem?
  intro i
  rw [Array.getElem?_modify, Array.getElem?_setIfInBounds]
  have hlt : r < w.heap.size := (Array.getElem?_eq_some_iff.1 h).1
  by_cases hi : r = i
  · subst hi
    have he : w.heap[r] = .cells arr e (lo, _) := (Array.getElem?_eq_some_iff.1 h).2
    simp [h, hlt, he]
  · simp [hi]

theorem ptrElem_some {t u : TypeId} (h : oB (p.underlying t) ptrElem = some u) : p.underlying t = some (.pointer u) := by
  obtain ⟨d, h1, h2⟩ := oB_some h
  cases d <;> first | (cases h2; exact h1) | cases h2

theorem run_unsafeString {w : World} {ts : Array TypeId} {ty t : TypeId} {a : Addr} {k : IntKind} {n : Int} (h0 : ts[0]? = some t) :
    (Builtin.unsafeString_ ts ty #[.pointer (some a), .int k n]).run p w =
      (if n < 0 then (do runtimePanic (.error "unsafe.String: len out of range"); pure (.string .empty) : Sem Value)
      else if n > IntKind.i64.max then unsupported (.unsafePointer "String: a length above the largest int")
      else if n = 0 then pure (.string .empty)
      else do
        if ← variablesAt a (← Go.elemOf t) n.toNat then do
          let s ← Go.loadBytes a .empty n.toNat
          freeze a n.toNat
          pure (.string s)
        else unsupported (.unsafePointer "String: not so many bytes at ptr") : Sem Value).run p w := by
  refine Eq.trans (congrArg (fun c : Sem Value => c.run p w) (show Builtin.unsafeString_ ts ty #[.pointer (some a), .int k n] = asInt (.int k n) >>= _ from rfl)) ?_
  simp only [Sem.run_bind, run_asInt, Result.andThen_ok, h0]
  by_cases h1 : n < 0
  · simp [h1, runtimePanic]
  · rw [if_neg h1, if_neg h1]
    by_cases h2 : n > IntKind.i64.max
    · simp [h2, unsupported]
    · rw [if_neg h2, if_neg h2]

theorem uString_sound {H : Heap} {w : World} {ts : Array TypeId} {ty t : TypeId} {a n : AV} {a' n' : Value} {r : ORes} (hH : HR p φ H w) (ha : VR φ a a') (hn : VR φ n n') (h0 : ts[0]? = some t) (h : uString p H t a n = some r) :
    Gives φ p H w (Builtin.unsafeString_ ts ty #[a', n']) r := by
  unfold uString at h
  split at h
  · rename_i b off k m
    obtain ⟨h1, h2⟩ := guardB_some h
    obtain ⟨u, h3, h4⟩ := oB_some h2
    obtain ⟨blk, h5, h6⟩ := oB_some h4
    have hu := ptrElem_some h3
    have hm := blt_lt h1
    unfold uStringB at h6
    split at h6
    · rename_i c e
      obtain ⟨h7, h8⟩ := guardB_some h6
      obtain ⟨cs, h9, h10⟩ := oB_some h8
      obtain ⟨l, h11, rfl⟩ := oM_some h10
      obtain ⟨q, y, e1, rfl⟩ := ha.ptr_inv
      obtain ⟨q', x', arr, fr, c', rest, g1, g2, g3, g4, g5, g6⟩ := hH.cells h5
      rw [e1] at g1; cases g1
      rw [hn.int_inv]
      have hlen := g4.length
      have hsz : arr.size = c'.length + rest.length := by rw [← Array.length_toList, g3, List.length_append]
      obtain ⟨rfl, hle⟩ := takeN_eq _ _ _ _ h9
      obtain ⟨str, k1, k2⟩ := run_loadBytes (p := p) (φ := φ) g2 (m + 1) off .empty _ l (by
        rw [g3, List.drop_append_of_le_length (by omega), List.take_append_of_le_length (by simp; omega)]
        exact (g4.drop off).take (m + 1)) (by simp; omega) h11
      obtain ⟨fr', k3⟩ := freeze_eq (off := off) g2 (show m + 1 ≠ 0 by omega)
      have hb : BR p φ y (.cells c e false) (.cells arr e fr') := .cells g3 g4 (fun hh => by cases hh) g6
      obtain ⟨s1, s2⟩ := hH.set h5 rfl e1 hb
      refine ⟨.string str, { w with heap := w.heap.setIfInBounds q (.cells arr e fr') }, φ, ?_, ?_, s1, s2⟩
      · have hmax : IntKind.i64.max = 9223372036854775807 := by decide
        have e2 : (Int.ofNat (m + 1)) = ((m + 1 : Nat) : Int) := rfl
        have e3 : (((m + 1 : Nat) : Int)).toNat = m + 1 := rfl
        have e4 : (Go.elemOf t).run p w = .ok u w := by unfold Go.elemOf; simp [run_underlying hu]
        have e5 : (freeze ⟨q, off, none⟩ (m + 1)).run p w = .ok () (w.freeze ⟨q, off, none⟩ (m + 1)) := by simp [freeze, Sem.run]
        rw [run_unsafeString h0]
        rw [e2, if_neg (by omega), if_neg (by rw [hmax]; omega), if_neg (by omega), e3]
        simp only [Sem.run_bind, e4, Result.andThen_ok, run_variablesAt g2 (show c.length ≤ arr.size by omega) h7, if_true, k1, e5, k3]
        rfl
      · have : l = str.data.toList.map UInt8.toNat := by rw [k2]; rfl
        show VR φ (.str l) (.string str)
        rw [this]; exact .str _
    · cases h6
  · cases h

end
end Go.Shadow
