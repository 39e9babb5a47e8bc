/- Proved here: readings stay where a call lays new blocks only. Conditions: those of the row Rows.traceImagesRow (its listed variables as laid); none else. -/
import Derived.Test.YtmaknbbijgihgaaGreatDoorRows
import Derived.ChangeStays
import Derived.ChangeSame
import Derived.Below
import Derived.Deep.DeepHandedRow
import Derived.KernelRfl
set_option linter.all false
namespace Go.Proofs.YtmaknbbijgihgaaGreatDoor
open Go.ChangeShapes Go.WideShapes Go.RowKit
set_option maxRecDepth 1000000
/-! ### Closed facts; what stays of a reading where only new blocks have come -/
def argTs : List TypeId := [22, 41, 37, 39, 26, 3, 35, 67]
def IsArg (t : TypeId) : Prop := argTs.contains t = true
def structFits (P : Program) (t : TypeId) (fs : Array Field) : Bool :=
  (fs.toList.all fun f => argTs.contains f.type) && (P.cellsOf t == (fs.toList.map fun f => P.cellsOf f.type).sum) &&
    (List.range fs.toList.length).all fun j => match fs.toList[j]? with | some f => f.offset == ((fs.toList.take j).map fun f => P.cellsOf f.type).sum | none => true
theorem structFits_of {P : Program} {t : TypeId} {fs : Array Field} (h : structFits P t fs = true) :
    (∀ f ∈ fs.toList, IsArg f.type) ∧ P.cellsOf t = (fs.toList.map fun f => P.cellsOf f.type).sum ∧ ∀ (j : Nat) f, fs.toList[j]? = some f → f.offset = ((fs.toList.take j).map fun f => P.cellsOf f.type).sum := by
  unfold structFits at h
  simp only [Bool.and_eq_true] at h
  obtain ⟨⟨h1, h2⟩, h3⟩ := h
  refine ⟨fun f hf => List.all_eq_true.1 h1 f hf, by simpa using h2, fun j f hj => ?_⟩
  have := List.all_eq_true.1 h3 j (List.mem_range.2 (List.getElem?_eq_some_iff.1 hj).1)
  rw [hj] at this
  simpa using this
theorem isArg_cases {t : TypeId} (h : IsArg t) : t = 22 ∨ t = 41 ∨ t = 37 ∨ t = 39 ∨ t = 26 ∨ t = 3 ∨ t = 35 ∨ t = 67 := by
  unfold IsArg argTs at h
  simpa using h
theorem fits41 : structFits Tryz.prog 41 (match Tryz.prog.underlying 41 with | some (.struct fs) => fs | _ => #[]) = true := by kernel_rfl
theorem fits37 : structFits Tryz.prog 37 (match Tryz.prog.underlying 37 with | some (.struct fs) => fs | _ => #[]) = true := by kernel_rfl
theorem fits39 : structFits Tryz.prog 39 (match Tryz.prog.underlying 39 with | some (.struct fs) => fs | _ => #[]) = true := by kernel_rfl
theorem fits67 : structFits Tryz.prog 67 (match Tryz.prog.underlying 67 with | some (.struct fs) => fs | _ => #[]) = true := by kernel_rfl
theorem kidsT : Kids Tryz.prog IsArg := by
  refine ⟨fun {t e} ht hu => ?_, fun {t e} ht hu => ?_, fun {t e n} ht hu => ?_, fun {t fs} ht hu => ?_, fun {t k e} ht hu => ?_⟩
  · rcases isArg_cases ht with rfl | rfl | rfl | rfl | rfl | rfl | rfl | rfl
    · rw [Tryz.underlying22] at hu; cases hu
    · rw [Tryz.underlying41] at hu; cases hu
    · rw [Tryz.underlying37] at hu; cases hu
    · rw [Tryz.underlying39] at hu; cases hu
    · rw [Tryz.underlying26] at hu; cases hu
    · rw [Tryz.underlying3] at hu; cases hu
    · rw [Tryz.underlying35] at hu; cases hu
    · rw [Tryz.underlying67] at hu; cases hu
  · rcases isArg_cases ht with rfl | rfl | rfl | rfl | rfl | rfl | rfl | rfl
    · rw [Tryz.underlying22] at hu; cases hu; rfl
    · rw [Tryz.underlying41] at hu; cases hu
    · rw [Tryz.underlying37] at hu; cases hu
    · rw [Tryz.underlying39] at hu; cases hu
    · rw [Tryz.underlying26] at hu; cases hu
    · rw [Tryz.underlying3] at hu; cases hu
    · rw [Tryz.underlying35] at hu; cases hu; rfl
    · rw [Tryz.underlying67] at hu; cases hu
  · rcases isArg_cases ht with rfl | rfl | rfl | rfl | rfl | rfl | rfl | rfl
    · rw [Tryz.underlying22] at hu; cases hu
    · rw [Tryz.underlying41] at hu; cases hu
    · rw [Tryz.underlying37] at hu; cases hu
    · rw [Tryz.underlying39] at hu; cases hu
    · rw [Tryz.underlying26] at hu; cases hu
    · rw [Tryz.underlying3] at hu; cases hu
    · rw [Tryz.underlying35] at hu; cases hu
    · rw [Tryz.underlying67] at hu; cases hu
  · rcases isArg_cases ht with rfl | rfl | rfl | rfl | rfl | rfl | rfl | rfl
    · rw [Tryz.underlying22] at hu; cases hu
    · have h := fits41; rw [hu] at h; exact structFits_of h
    · have h := fits37; rw [hu] at h; exact structFits_of h
    · have h := fits39; rw [hu] at h; exact structFits_of h
    · rw [Tryz.underlying26] at hu; cases hu
    · rw [Tryz.underlying3] at hu; cases hu
    · rw [Tryz.underlying35] at hu; cases hu
    · have h := fits67; rw [hu] at h; exact structFits_of h
  · rcases isArg_cases ht with rfl | rfl | rfl | rfl | rfl | rfl | rfl | rfl
    · rw [Tryz.underlying22] at hu; cases hu
    · rw [Tryz.underlying41] at hu; cases hu
    · rw [Tryz.underlying37] at hu; cases hu
    · rw [Tryz.underlying39] at hu; cases hu
    · rw [Tryz.underlying26] at hu; cases hu
    · rw [Tryz.underlying3] at hu; cases hu
    · rw [Tryz.underlying35] at hu; cases hu
    · rw [Tryz.underlying67] at hu; cases hu
theorem elemsT : (Tryz.prog.cellsOf 41 == 12 && Tryz.prog.cellsOf 67 == 3) = true := by kernel_rfl
theorem sizedT {t e : TypeId} (ht : IsArg t) (hu : Tryz.prog.underlying t = some (.slice e)) : 0 < Tryz.prog.cellsOf e := by
  have h := elemsT
  simp only [Bool.and_eq_true, beq_iff_eq] at h
  rcases isArg_cases ht with rfl | rfl | rfl | rfl | rfl | rfl | rfl | rfl
  · rw [Tryz.underlying22] at hu; cases hu; omega
  · rw [Tryz.underlying41] at hu; cases hu
  · rw [Tryz.underlying37] at hu; cases hu
  · rw [Tryz.underlying39] at hu; cases hu
  · rw [Tryz.underlying26] at hu; cases hu
  · rw [Tryz.underlying3] at hu; cases hu
  · rw [Tryz.underlying35] at hu; cases hu; omega
  · rw [Tryz.underlying67] at hu; cases hu
section
variable {H : Type} {enc : TypeId × Value → H}
theorem trodAll_later {W W' : World} {sp : Nat → Bool} : ∀ {ts : List TypeId} {vs : List Value} {ds : List (DataW H)} {ps : List MemPlace}, (∀ t, t ∈ ts → IsArg t) →
    DataW.TrodAll enc Tryz.prog W 0 (fun _ => true) true ts vs ds ps → (∀ p, p ∈ ps → W.sameAt W' p) → (∀ p, p ∈ ps → sp p.block = true) → DataW.TrodAll enc Tryz.prog W' 0 sp true ts vs ds ps
  | [], vs, ds, ps, _, h, _, _ => by
    obtain ⟨rfl, rfl, rfl⟩ := trodAll_nil h
    exact rfl
  | t :: ts, _, _, _, ht, h, hs, hp => by
    obtain ⟨v, vs1, d, ds1, a, b, rfl, rfl, rfl, h1, h2⟩ := trodAll_cons h
    refine ⟨a, b, ?_, trodAll_later (fun u hu => ht u (List.mem_cons_of_mem _ hu)) h2 (fun p hq => hs p (List.mem_append_right _ hq)) (fun p hq => hp p (List.mem_append_right _ hq)), rfl⟩
    obtain ⟨n, hn⟩ := h1
    exact ⟨n, DataW.trod_stays kidsT sizedT (fun h => by cases h) (ht t (List.mem_cons_self ..)) hn (fun p hq => hs p (List.mem_append_left _ hq)) (fun p hq => hp p (List.mem_append_left _ hq))⟩
/-- Behind a call that only laid new blocks, and gave a bool. -/
theorem post_below {f : Func} {s : ChangeSpec} {apart fresh handsOn again : Bool} {W W' : World} {args : Array Value} {v : Value} {ds gs : List (DataW H)} {before : List MemPlace}
    (hts : ∀ t, t ∈ f.params.toList → IsArg t) (hvs : s.vars = []) (hsv : (s.fn H (ds ++ gs)).vars = []) (hsa : (s.fn H (ds ++ gs)).args = ds)
    (hW : DataW.Whole enc Tryz.prog f.params.toList s.vars apart W args.toList ds gs before) (hb : Below W.heap.size W W')
    (hres : ∀ (b : Nat) (sp : Nat → Bool) (hd : Bool), DataW.TrodAll enc Tryz.prog W' b sp hd f.resultTypes.toList (v.resultList f.resultTypes.size) (s.fn H (ds ++ gs)).results [])
    (hok : ∀ (j : Nat) (t : TypeId) (r : Value), f.resultTypes[j]? = some t → (v.resultList f.resultTypes.size)[j]? = some r → Value.okWide Tryz.prog W' .any 0 t r) :
    s.post enc Tryz.prog f apart fresh handsOn again W args v W' := by
  have hlt : ∀ p, p ∈ before → p.block < W.heap.size := fun p hp => hW.lt p hp
  have hold : ∀ p, p ∈ before → (fun b => decide (b < W.heap.size)) p.block = true := fun p hp => by simpa using hlt p hp
  obtain ⟨pa, pv, hA, hV, hbe, hz, hn⟩ := id hW
  have hV' := hV
  rw [hvs] at hV'
  obtain ⟨hgs, hpv⟩ := trodVars_none hV'
  subst hpv
  rw [List.append_nil] at hbe
  subst hbe
  have hargs : ∀ sp : Nat → Bool, (∀ p, p ∈ before → sp p.block = true) → DataW.TrodAll enc Tryz.prog W' 0 sp true f.params.toList args.toList (s.fn H (ds ++ gs)).args before := fun sp hs => by
    rw [hsa]
    exact trodAll_later hts hA (fun p hp => hb.same (hlt p hp)) hs
  have hvars : ∀ sp : Nat → Bool, DataW.TrodVars enc Tryz.prog W' sp s.vars (s.fn H (ds ++ gs)).vars [] := fun sp => by rw [hvs, hsv]; exact rfl
  refine ⟨ds, gs, before, [], before, [], hW, hres _ _ _, hargs _ hold, hvars _, World.keptBut_mono (fun p hp => ⟨hp, Or.inr (Or.inl hp)⟩) (hb.frame _), fun _ => ⟨hok, _, _, ([] ++ before) ++ [], ⟨[] ++ before, [], trodAll_append (hargs _ (fun _ _ => rfl)) (hres _ _ _), hvars _, rfl, ?_, ?_⟩, ?_⟩⟩
  · intro b off hp
    have hp' : MemPlace.cell b off ∈ before := by simpa using hp
    rw [hb.frozen (p := ⟨b, off, none⟩) (hlt _ hp')]
    exact hz b off hp'
  · intro ha
    have := hn ha
    simpa using this
  · intro p hp _
    simpa using hp
end
end Go.Proofs.YtmaknbbijgihgaaGreatDoor
