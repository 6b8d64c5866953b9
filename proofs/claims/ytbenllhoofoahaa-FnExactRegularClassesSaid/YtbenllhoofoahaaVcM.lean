/- Arguments: values without addresses, and how they are read. -/
import Derived.Test.YtbenllhoofoahaaVcL
import Derived.OpenShut
import Derived.ProofKit
import Derived.Below
namespace Go.Vc
open Go.RowKit Go.WideShapes Go.ChangeShapes
set_option linter.unusedVariables false
set_option linter.unusedSimpArgs false
section
variable {H : Type} {enc : TypeId × Value → H} {P : Program}
/-- A type whose values bear no address. -/
def flat (P : Program) : Nat → TypeId → Bool
  | 0, _ => false
  | m + 1, t => match P.underlying t with
    | some .bool => true
    | some (.int _) => true
    | some .string => true
    | some (.struct fs) => fs.toList.all fun f => flat P m f.type
    | some (.array _ e) => flat P m e
    | _ => false
theorem mapM_same {α β : Type} {f g : α → Option β} : ∀ {l : List α} {ys : List β}, (∀ a ∈ l, ∀ y, f a = some y → g a = some y) → l.mapM f = some ys → l.mapM g = some ys
  | [], ys, h, hl => by simpa using hl
  | a :: l, ys, h, hl => by
    rw [List.mapM_cons] at hl ⊢
    cases ha : f a with
    | none => rw [ha] at hl; cases hl
    | some y =>
      rw [ha] at hl
      rw [h a (by simp) y ha]
      cases hr : l.mapM f with
      | none => simp [hr] at hl
      | some ys' =>
        rw [mapM_same (g := g) (fun b hb => h b (by simp [hb])) hr]
        simpa [hr] using hl
theorem mapM_all {α β : Type} {f : α → Option β} {p : β → Prop} : ∀ {l : List α} {ys : List β}, (∀ a ∈ l, ∀ y, f a = some y → p y) → l.mapM f = some ys → ∀ y ∈ ys, p y
  | [], ys, h, hl => by simp at hl; subst hl; simp
  | a :: l, ys, h, hl => by
    rw [List.mapM_cons] at hl
    cases ha : f a with
    | none => rw [ha] at hl; cases hl
    | some y =>
      rw [ha] at hl
      cases hr : l.mapM f with
      | none => simp [hr] at hl
      | some ys' =>
        simp only [hr, Option.bind_eq_bind, Option.bind_some, Option.pure_def, Option.some.injEq] at hl
        subst hl
        intro z hz
        rcases List.mem_cons.1 hz with rfl | hz
        · exact h a (by simp) _ ha
        · exact mapM_all (fun b hb => h b (by simp [hb])) hr z hz
theorem flatMap_nil {α β : Type} {f : α → List β} : ∀ {l : List α}, (∀ a ∈ l, f a = []) → l.flatMap f = []
  | [], _ => rfl
  | a :: l, h => by rw [List.flatMap_cons, h a (by simp), flatMap_nil fun b hb => h b (by simp [hb])]; rfl
theorem trod_flat {w w' : World} {base base' : Nat} {spare spare' : Nat → Bool} {held held' : Bool} : ∀ (fuel m : Nat) {t : TypeId} {cs : List Value} {x : DataW H × List MemPlace}, flat P m t = true → DataW.trod enc P w base spare held fuel t cs = some x →
    x.2 = [] ∧ DataW.trod enc P w' base' spare' held' fuel t cs = some x
  | 0, _, t, cs, x, _, h => by simp [DataW.trod] at h
  | fuel + 1, 0, t, cs, x, hf, _ => by simp [flat] at hf
  | fuel + 1, m + 1, t, cs, x, hf, h => by
    unfold flat at hf
    unfold DataW.trod at h ⊢
    cases hu : P.underlying t with
    | none => simp [hu] at hf
    | some d =>
      rw [hu] at hf h
      cases d with
      | struct fs =>
        simp only [List.all_eq_true] at hf
        by_cases hl : cs.length = P.cellsOf t
        · simp only [hl, if_true, Option.map_eq_some_iff] at h ⊢
          obtain ⟨xs, h1, rfl⟩ := h
          refine ⟨flatMap_nil fun y hy => mapM_all (p := fun y => y.2 = []) (fun a ha y h => (trod_flat (w := w) (w' := w') (base' := base') (spare' := spare') (held' := held') fuel m (hf a ha) h).1) h1 y hy, xs, mapM_same (fun a ha y h => (trod_flat fuel m (hf a ha) h).2) h1, rfl⟩
        · simp [hl] at h
      | array n e =>
        simp only at hf
        by_cases hl : cs.length = P.cellsOf t
        · simp only [hl, if_true, Option.map_eq_some_iff] at h ⊢
          obtain ⟨xs, h1, rfl⟩ := h
          refine ⟨flatMap_nil fun y hy => mapM_all (p := fun y => y.2 = []) (fun a ha y h => (trod_flat (w := w) (w' := w') (base' := base') (spare' := spare') (held' := held') fuel m hf h).1) h1 y hy, xs, mapM_same (fun a ha y h => (trod_flat fuel m hf h).2) h1, rfl⟩
        · simp [hl] at h
      | bool => 
        split at h <;> simp_all
        all_goals (subst h; rfl)
      | int k =>
        split at h <;> simp_all
        all_goals (obtain ⟨h1, h2⟩ := h; subst h2; rfl)
      | string =>
        split at h <;> simp_all
        all_goals (obtain ⟨h1, h2⟩ := h; subst h2; rfl)
      | _ => simp at hf
theorem Trod_flat {w w' : World} {base base' : Nat} {spare spare' : Nat → Bool} {held held' : Bool} (m : Nat) {t : TypeId} {v : Value} {d : DataW H} {p : List MemPlace} (hf : flat P m t = true) (h : DataW.Trod enc P w base spare held t v d p) :
    p = [] ∧ DataW.Trod enc P w' base' spare' held' t v d [] := by
  obtain ⟨fuel, h⟩ := h
  obtain ⟨h1, h2⟩ := trod_flat (w' := w') (base' := base') (spare' := spare') (held' := held') fuel m hf h
  simp only at h1; subst h1
  exact ⟨rfl, fuel, h2⟩
/-- All values of a type are m bytes. -/
def Bytes (P : Program) (t m : Nat) : Prop := ∀ {H : Type} {enc : TypeId × Value → H} {w : World} {base : Nat} {spare : Nat → Bool} {held : Bool} {fuel : Nat} {cs : List Value} {x : DataW H × List MemPlace},
  DataW.trod enc P w base spare held fuel t cs = some x → ∃ r : Nat → UInt8, cs = tab m fun k => by8 (r k)
theorem bytes_u8 {t : TypeId} (ht : P.underlying t = some (.int .u8)) : Bytes P t 1 := fun h => by
  obtain ⟨n, rfl, _, hw⟩ := DataW.trod_int ht h
  have hw' := bounds_u8 hw
  refine ⟨fun _ => UInt8.ofNat n.toNat, ?_⟩
  have e : ((UInt8.ofNat n.toNat).toNat : Int) = n := by rw [UInt8.toNat_ofNat']; omega
  show [Value.int .u8 n] = [Value.int .u8 ((UInt8.ofNat n.toNat).toNat : Int)]
  rw [e]
theorem bytes_array {t e : TypeId} {n m : Nat} (ht : P.underlying t = some (.array n e)) (hm : P.cellsOf e = m) (hc : P.cellsOf t = n * m) (he : Bytes P e m) : Bytes P t (n * m) := fun {H enc w base spare held fuel cs x} h => by
  obtain ⟨xs, f, _, _, hl, hxl, hi⟩ := DataW.trod_array ht h
  rw [hc] at hl
  rw [hm] at hi
  have h1 : ∀ i, ∃ r : Nat → UInt8, i < n → (cs.drop (i * m)).take m = tab m fun k => by8 (r k) := fun i => by
    by_cases h : i < n
    · have h2 := hi i h
      rw [List.getElem?_eq_getElem (by omega)] at h2
      obtain ⟨r, hr⟩ := he h2
      exact ⟨r, fun _ => hr⟩
    · exact ⟨fun _ => 0, fun h' => (h h').elim⟩
  have h2 : ∃ R : Nat → Nat → UInt8, ∀ i, i < n → (cs.drop (i * m)).take m = tab m fun k => by8 (R i k) := ⟨fun i => Classical.choose (h1 i), fun i hi => Classical.choose_spec (h1 i) hi⟩
  obtain ⟨R, hR⟩ := h2
  refine ⟨fun k => R (k / m) (k % m), tab_ext (m := 0) hl fun k hk => ?_⟩
  have hm0 : 0 < m := by
    rcases Nat.eq_zero_or_pos m with h0 | h0
    · subst h0; omega
    · exact h0
  have hq : k / m < n := Nat.div_lt_of_lt_mul (by rw [Nat.mul_comm]; exact hk)
  have hr : k % m < m := Nat.mod_lt _ hm0
  have h3 : ((cs.drop (k / m * m)).take m)[k % m]? = (tab m fun k' => by8 (R (k / m) k'))[k % m]? := by rw [hR (k / m) hq]
  rw [tab_get _ _ _ hr, List.getElem?_take, if_pos hr, List.getElem?_drop] at h3
  have h4 : k / m * m + k % m = k := by rw [Nat.mul_comm]; exact Nat.div_add_mod k m
  rw [h4] at h3
  exact h3
theorem drop_get {cs : List Value} {o m : Nat} {f : Nat → Value} (h : (cs.drop o).take m = tab m f) {k : Nat} (hk : k < m) : cs[o + k]? = some (f k) := by
  have h3 : ((cs.drop o).take m)[k]? = (tab m f)[k]? := by rw [h]
  rwa [tab_get _ _ _ hk, List.getElem?_take, if_pos hk, List.getElem?_drop] at h3
end
theorem Sat.start (w : World) : Sat w none' none' none' none' w := ⟨Same.refl _ _ _, fun b e h => by (cases h), fun b e h => by (cases h), fun b e h => by (cases h)⟩
/-- A call that is told nothing of memory: what it returns, and that all blocks that were there read as they did. -/
theorem calls_plain {P : Program} {f : FuncId} {args : Array Value} {V : Value} (h : CallsX P f args none' none' (fun v M ψ => v = V ∧ M = none')) (w : World) : Calls P f args w fun e w' => e = .returned V ∧ Below w.heap.size w w' := by
  refine (h.2 w (Sat.start w)).mono fun e w' h => ?_
  obtain ⟨v, M, ψ, rfl, ⟨rfl, _⟩, hs⟩ := h
  exact ⟨rfl, hs.same.below⟩
theorem post_of_below {H : Type} {enc : TypeId × Value → H} {P : Program} {f : Func} {s : ChangeSpec} {apart fresh handsOn : Bool} {W W' : World} {args : Array Value} {v : Value} {ds gs : List (DataW H)} {before pa pv : List MemPlace}
    (hW : DataW.Whole enc P f.params.toList s.vars apart W args.toList ds gs before)
    (hres : ∀ (b : Nat) (sp : Nat → Bool) (hd : Bool), DataW.TrodAll enc P W' b sp hd f.resultTypes.toList (v.resultList f.resultTypes.size) (s.fn H (ds ++ gs)).results [])
    (hargs : ∀ sp : Nat → Bool, (∀ p ∈ before, sp p.block = true) → DataW.TrodAll enc P W' 0 sp true f.params.toList args.toList (s.fn H (ds ++ gs)).args pa)
    (hvars : ∀ sp : Nat → Bool, (∀ p ∈ before, sp p.block = true) → DataW.TrodVars enc P W' sp s.vars (s.fn H (ds ++ gs)).vars pv)
    (hps : before = pa ++ pv) (hb : Below W.heap.size W W') : s.post enc P f apart fresh handsOn false W args v W' := by
  have hold : ∀ p ∈ before, (fun b => decide (b < W.heap.size)) p.block = true := fun p hp => by simpa using hW.lt p hp
  refine ⟨ds, gs, before, [], pa, pv, hW, hres _ _ _, hargs _ hold, hvars _ hold, World.keptBut_mono (fun p hp => ⟨hp, ?_⟩) (hb.frame (· ∈ before)), fun h => by cases h⟩
  rw [hps, List.mem_append] at hp
  exact Or.inr hp
end Go.Vc
