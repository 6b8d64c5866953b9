/- Cells told by a function of their place. -/
import Derived.Test.YtbenllhoofoahaaVcK
namespace Go.Vc
set_option linter.unusedVariables false
def tab (n : Nat) (f : Nat → Value) : List Value := (List.range n).map f
abbrev by8 (x : UInt8) : Value := .int .u8 x.toNat
abbrev i64 (x : Int) : Value := .int .i64 x
theorem tab_len (n : Nat) (f : Nat → Value) : (tab n f).length = n := by simp [tab]
theorem tab_get (n : Nat) (f : Nat → Value) (i : Nat) (h : i < n) : (tab n f)[i]? = some (f i) := by simp [tab, h]
theorem tab_ext {n m : Nat} {f : Nat → Value} {l : List Value} (hl : l.length = n) (h : ∀ i < n, l[i]? = some (f i)) : l = tab n f := by
  apply List.ext_getElem?
  intro i
  by_cases hi : i < n
  · rw [h i hi, tab_get n f i hi]
  · rw [List.getElem?_eq_none (by omega), List.getElem?_eq_none (by rw [tab_len]; omega)]
theorem tab_eq {n : Nat} {f g : Nat → Value} (h : ∀ i < n, f i = g i) : tab n f = tab n g := by
  unfold tab; refine List.map_congr_left fun i hi => ?_; rw [h i (by simpa using hi)]
theorem tab_set (n : Nat) (f : Nat → Value) (i : Nat) (v : Value) : (tab n f).set i v = tab n (upd f i v) := by
  refine tab_ext (m := 0) (by simp [tab]) fun j hj => ?_
  rw [List.getElem?_set]
  by_cases hij : i = j
  · subst hij; simp [tab, hj, upd]
  · simp [hij, tab, hj, upd, Ne.symm hij]
theorem tab_seg (n : Nat) (f : Nat → Value) (o m : Nat) (h : o + m ≤ n) : ((tab n f).drop o).take m = tab m fun k => f (o + k) := by
  refine tab_ext (m := 0) (by simp [tab]; omega) fun j hj => ?_
  rw [List.getElem?_take, if_pos hj, List.getElem?_drop, tab_get _ _ _ (by omega)]
def lay (f : Nat → Value) (o m : Nat) (g : Nat → Value) (k : Nat) : Value := if o ≤ k ∧ k < o + m then g (k - o) else f k
theorem lay_in {f g : Nat → Value} {o m k : Nat} (h : o ≤ k ∧ k < o + m) : lay f o m g k = g (k - o) := if_pos h
theorem lay_out {f g : Nat → Value} {o m k : Nat} (h : ¬ (o ≤ k ∧ k < o + m)) : lay f o m g k = f k := if_neg h
theorem tab_put (n : Nat) (f : Nat → Value) (o m : Nat) (g : Nat → Value) (h : o + m ≤ n) : put (tab n f) o (tab m g) = tab n (lay f o m g) := by
  refine tab_ext (m := 0) (by simp [put, tab]; omega) fun j hj => ?_
  unfold put lay
  by_cases h1 : j < o
  · rw [List.append_assoc, List.getElem?_append_left (by simp [tab]; omega), List.getElem?_take, if_pos h1, tab_get _ _ _ hj, if_neg (by omega)]
  · by_cases h2 : j < o + m
    · rw [List.append_assoc, List.getElem?_append_right (by simp [tab]; omega), List.getElem?_append_left (by simp [tab]; omega)]
      have : j - (List.take o (tab n f)).length = j - o := by simp [tab]; omega
      rw [this, tab_get _ _ _ (by omega), if_pos ⟨by omega, h2⟩]
    · rw [List.getElem?_append_right (by simp [tab]; omega), List.getElem?_drop, if_neg (by omega)]
      have : o + (tab m g).length + (j - (List.take o (tab n f) ++ tab m g).length) = j := by simp [tab]; omega
      rw [this, tab_get _ _ _ hj]
/-- Each cell is one. -/
def One (n : Nat) (f : Nat → Value) : Prop := ∀ i, (f i).oneCell' = true
theorem one_int (k : IntKind) (x : Int) : (Value.int k x).oneCell' = true := rfl
theorem one_bool (x : Bool) : (Value.bool x).oneCell' = true := rfl
theorem one_slice (p : Option Addr) (l c : Nat) : (Value.slice p l c).oneCell' = true := rfl
theorem one_c {n : Nat} {v : Value} (h : v.oneCell' = true) : One n fun _ => v := fun _ => h
theorem one_by8 (n : Nat) (f : Nat → UInt8) : One n fun i => by8 (f i) := fun _ => rfl
theorem one_upd {n i : Nat} {f : Nat → Value} {v : Value} (h : One n f) (hv : v.oneCell' = true) : One n (upd f i v) := fun k => by
  unfold upd; split
  · exact hv
  · exact h k
theorem one_lay {n o m : Nat} {f g : Nat → Value} (h : One n f) (h' : One m g) : One n (lay f o m g) := fun k => by
  unfold lay; split
  · exact h' _
  · exact h k
theorem one_if {a n : Nat} {v w : Nat → Value} (hv : One n v) (hw : One n w) : One n (fun k => if k < a then v k else w k) := fun k => by
  show (if k < a then v k else w k).oneCell' = true
  split
  · exact hv k
  · exact hw k
theorem one_sh {n m o : Nat} {f : Nat → Value} (h : One m f) : One n (fun k => f (k - o)) := fun k => h _
theorem one_ad {n m o : Nat} {f : Nat → Value} (h : One m f) : One n (fun k => f (o + k)) := fun k => h _
theorem tab_one {n : Nat} {f : Nat → Value} (h : One n f) : (tab n f).all (·.oneCell') = true := by
  simp only [tab, List.all_map, List.all_eq_true, List.mem_range]
  exact fun i hi => h i
theorem all_succ {j : Nat} {p : Nat → Prop} (h : ∀ k < j, p k) (hj : p j) : ∀ k < j + 1, p k := fun k hk => by
  by_cases hkj : k = j
  · rw [hkj]; exact hj
  · exact h k (by omega)
/-- The same code is shown once for several ways that lead to it. -/
theorem rest_of {P : Program} {κ X M ψ : Mem} (φ : Env → Prop) {c : Code} {q : Exit → VP} {B : Prop} (main : (∀ e, φ e → @run P κ X ⟨c, q⟩ e M ψ) → B) (rest : ∀ e, φ e → @run P κ X ⟨c, q⟩ e M ψ) : B := main rest
noncomputable def dec (p : Prop) : Bool := @decide p (Classical.propDecidable p)
theorem dec_true {p : Prop} (h : p) : dec p = true := by unfold dec; exact @decide_eq_true p (Classical.propDecidable p) h
theorem dec_false {p : Prop} (h : ¬ p) : dec p = false := by unfold dec; exact @decide_eq_false p (Classical.propDecidable p) h
theorem dec_eq {p q : Prop} (h : p ↔ q) : dec p = dec q := by rw [propext h]
theorem dec_iff {p : Prop} : dec p = true ↔ p := by
  constructor
  · intro h
    refine Classical.byContradiction fun hn => ?_
    rw [dec_false hn] at h; cases h
  · exact dec_true
theorem dec_succ {j : Nat} {p : Nat → Prop} (b : Bool) (h : b = dec (∃ a, a < j ∧ p a)) (c : Bool) (hc : (b || c) = true ↔ (b = true ∨ p j)) : dec (∃ a, a < j + 1 ∧ p a) = (b || c) := by
  have e : (∃ a, a < j + 1 ∧ p a) ↔ ((b || c) = true) := by
    rw [hc, h, dec_iff]
    constructor
    · rintro ⟨a, ha, hp⟩
      by_cases haj : a = j
      · subst haj; exact .inr hp
      · exact .inl ⟨a, by omega, hp⟩
    · rintro (⟨a, ha, hp⟩ | hp)
      · exact ⟨a, by omega, hp⟩
      · exact ⟨j, by omega, hp⟩
  cases hb : (b || c)
  · rw [hb] at e; exact dec_false (fun h => by cases e.1 h)
  · rw [hb] at e; exact dec_true (e.2 rfl)
theorem Apart.has {κ ψ M : Mem} {b : Nat} {T : TypeId} {cs : List Value} (ha : Apart κ ψ M) (h : Has κ b T cs) : Has (all κ ψ M) b T cs := by
  obtain ⟨t, h⟩ := h
  obtain ⟨h1, h2⟩ := (ha b _).1 h
  exact ⟨t, by simp only [all, over, h1, h2, h, Option.none_or]⟩
theorem has_own {κ ψ M : Mem} {b : Nat} {T : TypeId} {cs : List Value} (h : Has M b T cs) : Has (all κ ψ M) b T cs := by
  obtain ⟨t, h⟩ := h
  exact ⟨t, by simp only [all, over, h, Option.some_or]⟩
theorem has_upd {κ ψ M : Mem} {b p : Nat} {e : Option Ent} {T : TypeId} {cs : List Value} (h : Has (all κ ψ M) b T cs) (hb : b ≠ p) : Has (all κ ψ (upd M p e)) b T cs := by
  obtain ⟨t, h⟩ := h
  exact ⟨t, by simpa only [all, over, upd_ne hb] using h⟩
theorem has_new {κ ψ M : Mem} {b p : Nat} {e : Option Ent} {T : TypeId} {cs : List Value} (h : Has (all κ ψ M) b T cs) (p1 : M p = none) (p2 : ψ p = none) (p3 : κ p = none) : Has (all κ ψ (upd M p e)) b T cs :=
  has_upd h fun hb => by
    subst hb; obtain ⟨t, h⟩ := h
    simp only [all, over, p1, p2, p3, Option.none_or] at h; cases h
theorem Apart.upd {κ ψ M : Mem} {p : Nat} {e : Option Ent} (ha : Apart κ ψ M) (p2 : ψ p = none) (p3 : κ p = none) : Apart κ ψ (upd M p e) := fun b e' => by
  refine ⟨fun h => ?_, fun h => ?_⟩
  · have hb : b ≠ p := fun hb => by subst hb; rw [p3] at h; cases h
    rw [upd_ne hb]; exact (ha b e').1 h
  · have hb : b ≠ p := fun hb => by subst hb; rw [p2] at h; cases h
    rw [upd_ne hb]; exact (ha b e').2 h
theorem Apart.none {κ : Mem} : Apart κ none' none' := fun b e => ⟨fun _ => ⟨rfl, rfl⟩, fun h => by cases h⟩
section
theorem s_segTab (T : TypeId) (N : Nat) (f : Nat → Value) (tot o n : Nat) (h : o + n ≤ N) : segAt (some ⟨T, tab N f, tot⟩) o n = some (.agg (tab n fun k => f (o + k)).toArray) := by
  rw [s_segAt _ _ _ _ _ (by rw [tab_len]; exact h), tab_seg _ _ _ _ h]
theorem s_segTab0 (T : TypeId) (n : Nat) (f : Nat → Value) (tot : Nat) : segAt (some ⟨T, tab n f, tot⟩) 0 n = some (.agg (tab n f).toArray) := s_segAll _ _ _ _ (tab_len n f)
theorem s_cellTab (T : TypeId) (N : Nat) (f : Nat → Value) (tot o : Nat) (h : o < N) : cellAt (some ⟨T, tab N f, tot⟩) o = some (f o) := by rw [s_cellAt, tab_get _ _ _ h]
theorem s_putTabI (T : TypeId) (N : Nat) (f : Nat → Value) (tot : Nat) (M : Mem) (b o : Nat) (k : IntKind) (x : Int) (h : o < N) : putAt (some ⟨T, tab N f, tot⟩) M b o 1 (.int k x) = some (upd M b (some ⟨T, tab N (upd f o (.int k x)), tot⟩)) := by
  rw [s_putInt _ _ _ _ _ _ _ _ (by rw [tab_len]; exact h), tab_set]
theorem s_putTab8 (T : TypeId) (N : Nat) (f : Nat → Value) (tot : Nat) (M : Mem) (b o : Nat) (x : UInt8) (h : o < N) : putAt (some ⟨T, tab N f, tot⟩) M b o 1 (by8 x) = some (upd M b (some ⟨T, tab N (upd f o (by8 x)), tot⟩)) := s_putTabI _ _ _ _ _ _ _ _ _ h
theorem s_putTab64 (T : TypeId) (N : Nat) (f : Nat → Value) (tot : Nat) (M : Mem) (b o : Nat) (x : Int) (h : o < N) : putAt (some ⟨T, tab N f, tot⟩) M b o 1 (i64 x) = some (upd M b (some ⟨T, tab N (upd f o (i64 x)), tot⟩)) := s_putTabI _ _ _ _ _ _ _ _ _ h
theorem s_putTabB (T : TypeId) (N : Nat) (f : Nat → Value) (tot : Nat) (M : Mem) (b o : Nat) (x : Bool) (h : o < N) : putAt (some ⟨T, tab N f, tot⟩) M b o 1 (.bool x) = some (upd M b (some ⟨T, tab N (upd f o (.bool x)), tot⟩)) := by
  rw [s_putBool _ _ _ _ _ _ _ (by rw [tab_len]; exact h), tab_set]
theorem s_putTabR (T : TypeId) (N : Nat) (f : Nat → Value) (tot : Nat) (M : Mem) (b o n : Nat) (g : Nat → Value) (h : o + n ≤ N) (h1 : One n g) : putAt (some ⟨T, tab N f, tot⟩) M b o n (.agg (tab n g).toArray) = some (upd M b (some ⟨T, tab N (lay f o n g), tot⟩)) := by
  rw [s_putRow _ _ _ _ _ _ _ _ (tab_len n g) (by rw [tab_len]; exact h) (tab_one h1), tab_put _ _ _ _ _ h]
theorem lay_all {n : Nat} {f g : Nat → Value} : tab n (lay f 0 n g) = tab n g := tab_eq fun i hi => by rw [lay_in ⟨by omega, by omega⟩]; simp
theorem s_putTabA (T : TypeId) (n : Nat) (f : Nat → Value) (tot : Nat) (M : Mem) (b : Nat) (g : Nat → Value) (h1 : One n g) : putAt (some ⟨T, tab n f, tot⟩) M b 0 n (.agg (tab n g).toArray) = some (upd M b (some ⟨T, tab n g, tot⟩)) := by
  rw [s_putTabR _ _ _ _ _ _ _ _ _ (by omega) h1, lay_all]
theorem s_fieldTab (n : Nat) (f : Nat → Value) (i : Nat) (h : i < n) : (tab n f).toArray[i]? = some (f i) := by simpa using tab_get n f i h
theorem s_extract (n : Nat) (f : Nat → Value) (o m : Nat) (h : o + m ≤ n) : (tab n f).toArray.extract o (o + m) = (tab m fun k => f (o + k)).toArray := by
  rw [← tab_seg n f o m h]; simp
theorem s_conv8 (k : IntKind) (x : UInt8) (hk : k = .i64) : IntKind.wrap k (x.toNat : Int) = x.toNat := by
  subst hk; have := x.toNat_lt; exact s_wrap64 _ (by omega)
end
/-! ### Slices of elements of one cell -/
def nums (l : List Int) : List Value := l.map i64
theorem nums_len (l : List Int) : (nums l).length = l.length := by simp [nums]
theorem nums_get (l : List Int) (i : Nat) (h : i < l.length) : (nums l)[i]? = some (i64 (l.getD i 0)) := by simp [nums, h]
theorem nums_nil : nums [] = [] := rfl
theorem nums_app (l l' : List Int) : nums l ++ nums l' = nums (l ++ l') := by simp [nums]
theorem nums_one (l : List Int) : (nums l).all (·.oneCell') = true := by
  simp only [nums, List.all_map, List.all_eq_true]; intro x _; rfl
theorem nums_set (l : List Int) (i : Nat) (x : Int) : (nums l).set i (i64 x) = nums (l.set i x) := by simp [nums, List.map_set]
theorem append_at {P : Program} {κ M ψ : Mem} {t e ty : TypeId} {F : Value → Mem → Mem → Prop} {b n c q m k k' tot : Nat} {l l' : List Value} (hu : P.underlying t = some (.slice e)) (hok : appendOk P e = true) (hm : P.cellsOf e = 1) (hby : P.bytesOf e = k')
    (hb : M b = some ⟨e, l, c⟩) (hl : l.length = n) (hnc : n ≤ c) (hc : c ≤ maxLen) (hq : all κ ψ M q = some ⟨ty, l', tot⟩) (hl' : l'.length = m) (h1 : l'.all (·.oneCell') = true) (h0 : 0 < m)
    (hs : (n + m) * k' ≤ 140737488355328) (hx : n + m ≤ maxLen)
    (hk : ∀ g c', upd M b none g = none → ψ g = none → κ g = none → n + m ≤ c' → c' ≤ maxLen → F (.slice (some ⟨g, 0, none⟩) (n + m) c') (upd (upd M b none) g (some ⟨e, l ++ l', c'⟩)) ψ) :
    @appendB P κ t (.slice (some ⟨b, 0, none⟩) n c) (.slice (some ⟨q, 0, none⟩) m k) ⟨F⟩ M ψ := by
  refine ⟨e, hu, hok, m, l', ?_, h1, n, l, upd M b none, ?_, fun _ => h0, by rw [hby]; exact hs, hx, fun g c' hf h2 h3 => ?_⟩
  · simp [readS, hq, hm, hl', List.take_of_length_le (Nat.le_of_eq hl')]
  · simp [ownS, hb, hm, hl, hnc, hc]
  · rw [hm, Nat.mul_one]; exact hk g c' hf.1 hf.2.1 hf.2.2 h2 h3
/-! ### Lent memory -/
def Edits (P : Program) (f : FuncId) (args : List Value) (κ : Mem) (b : Nat) (e : Ent) (R : Value → Ent → Prop) : Prop :=
  CallsX P f args.toArray (upd none' b (some e)) κ (fun v M ψ => ∃ e', R v e' ∧ M = upd none' b (some e') ∧ ψ = none')
theorem edits_of {P : Program} {κ : Mem} {f : FuncId} {fn : Func} {c : Code} {args : List Value} {b : Nat} {e : Ent} {R : Value → Ent → Prop} (hm : P.follows .mixedOrders = true) (hf : P.funcs[f]? = some fn) (hb : fn.body = some c)
    (hok : callOk P f = true) (hn : okN fn.ntmps c = true) (ha : args.length ≤ fn.ntmps) {rs : List ResultVar} (hr : fn.results.toList = rs)
    (h : @run P κ (upd none' b (some e)) ⟨c, retQ P κ (upd none' b (some e)) rs (fun v M ψ => ∃ e', R v e' ∧ M = upd none' b (some e') ∧ ψ = none')⟩ (envOf args 0) (upd none' b (some e)) none') : Edits P f args κ b e R := run_of hm hf hb hok hn ha hr h
theorem up_edits {X ψ M : Mem} {b : Nat} {e' : Ent} {v : Value} {R : Value → Ent → Prop} (h : M b = some e') (hR : R v e') (hψ : ψ = none') :
    Up X ψ M (fun M ψ => ∃ e', R v e' ∧ M = upd none' b (some e') ∧ ψ = none') :=
  have hle : Le (upd none' b (some e')) M := fun k x hk => by
    by_cases hkb : k = b
    · subst hkb; rw [upd_same] at hk; rw [h]; exact hk
    · rw [upd_ne hkb] at hk; cases hk
  ⟨upd none' b (some e'), ψ, hle, Le.refl _, fun b e hb => .inl hb, fun b e hb => .inr hb, e', hR, rfl, hψ⟩
theorem callB_edits {P : Program} {κ M ψ : Mem} {f : FuncId} {args : Array Value} {b : Nat} {e : Ent} {R : Value → Ent → Prop} {F : Value → Mem → Mem → Prop} (hb : M b = some e)
    (h : Edits P f args.toList (all κ ψ (upd M b none)) b e R) (hk : ∀ v e', R v e' → F v (upd M b (some e')) ψ) : @callB P κ (.func (.func f) #[] #[]) args ⟨F⟩ M ψ := by
  refine ⟨upd none' b (some e), upd M b none, _, ?_, by unfold Edits at h; simpa [CallsF] using h, ?_⟩
  · intro k
    by_cases hkb : k = b
    · subst hkb; exact .inr ⟨upd_same .., by rw [upd_same, hb]⟩
    · exact .inl ⟨by rw [upd_ne hkb]; rfl, by rw [upd_ne hkb]⟩
  · rintro v M' ψ' ⟨e', hR, rfl, rfl⟩ _
    have h1 : over (upd M b none) (upd none' b (some e')) = upd M b (some e') := by
      funext k
      unfold over
      by_cases hkb : k = b
      · subst hkb; simp [upd_same]
      · simp [upd_ne hkb, none']
    rw [h1, over_none']; exact hk v e' hR
/-! ### Arrays of numbers -/
def numF (f : Nat → Int) (k : Nat) : Value := i64 (f k)
theorem one_num (n) (f : Nat → Int) : One n (numF f) := fun _ => rfl
theorem num_upd (f : Nat → Int) (i : Nat) (x : Int) : upd (numF f) i (.int .i64 x) = numF (upd f i x) := by
  funext k; by_cases h : k = i
  · subst h; simp [upd_same, numF]
  · simp [upd_ne h, numF]
theorem num_app (n : Nat) (f : Nat → Int) (x : Int) : tab n (numF f) ++ [.int .i64 x] = tab (n + 1) (numF (upd f n x)) := by
  refine tab_ext (m := 0) (by simp [tab]) fun j hj => ?_
  by_cases h : j = n
  · subst h; rw [List.getElem?_append_right (by simp [tab])]; simp [tab, numF, upd_same]
  · rw [List.getElem?_append_left (by simp [tab]; omega), tab_get _ _ _ (by omega)]; unfold numF; rw [upd_ne h]
theorem sliceV_lo {P : Program} {T e : TypeId} {m : Nat} (hu : P.underlying T = some (.slice e)) (hi : (P.info? e).isSome = true) (hm : P.cellsOf e = m) (b o n c : Nat) (k : IntKind) (l : Int) (h : 0 ≤ l ∧ l ≤ n) (hc : l < c) (hnc : n ≤ c) :
    sliceV P T (.slice (some ⟨b, o, none⟩) n c) (some (.int k l)) none = some (.slice (some ⟨b, o + l.toNat * m, none⟩) (n - l.toNat) (c - l.toNat)) := by
  have h1 : ¬ c = l.toNat := by omega
  have h2 : n ≤ c ∧ (0 ≤ l ∧ l ≤ n) := ⟨hnc, h⟩
  simp [sliceV, hu, hiOf, loOf, hi, hm, h1, h, hnc, Addr.add]
theorem sliceV_hi {P : Program} {T e : TypeId} (hu : P.underlying T = some (.slice e)) (hi : (P.info? e).isSome = true) (b o n c : Nat) (k : IntKind) (l : Int) (h : 0 ≤ l ∧ l ≤ c) :
    sliceV P T (.slice (some ⟨b, o, none⟩) n c) none (some (.int k l)) = some (.slice (some ⟨b, o, none⟩) l.toNat c) := by
  simp only [sliceV, hu, hiOf, loOf, hi, h, if_true, Int.toNat_zero, Nat.sub_zero, Nat.zero_mul, Option.map_some, Nat.le_refl, Int.le_refl, and_true, true_and]
  by_cases h1 : c = 0
  · simp [h1]
  · simp [h1, Addr.add]
theorem clearV_one {P : Program} {M : Mem} {T e ty : TypeId} {v : Value} {b o n c N tot : Nat} {f : Nat → Value} (hu : P.underlying T = some (.slice e)) (hz : zeroOf P e = some [v]) (hv : v.oneCell' = true) (hM : M b = some ⟨ty, tab N f, tot⟩) (h : o + n ≤ N) :
    clearV P M T (.slice (some ⟨b, o, none⟩) n c) = some (upd M b (some ⟨ty, tab N (lay f o n fun _ => v), tot⟩)) := by
  unfold zeroOf at hz
  rw [Option.map_eq_some_iff] at hz
  obtain ⟨z, hz, hz1⟩ := hz
  simp only [clearV, hu]
  by_cases hn : n = 0
  · subst hn
    rw [if_pos rfl]
    congr 1
    have : tab N (lay f o 0 fun _ => v) = tab N f := tab_eq fun k _ => lay_out (by omega)
    rw [this]
    funext k
    by_cases hk : k = b
    · subst hk; rw [upd_same, hM]
    · rw [upd_ne hk]
  · rw [if_neg hn, hz, hM]
    have hzc : z.cells = #[v] := by rw [← Array.toList_inj]; simpa using hz1
    have e : (Builtin.zeroCells z.cells n).toList = tab n fun _ => v := by
      refine tab_ext (m := 0) (by simp [Builtin.zeroCells, hzc]) fun j hj => ?_
      simp [Builtin.zeroCells, hzc, hj, Nat.mod_one]
    simp only [e]
    rw [if_pos ⟨by rw [tab_len, tab_len]; exact h, tab_one (one_c hv)⟩, tab_put _ _ _ _ _ h]
attribute [go_sem] lay_all List.map_toArray List.map_cons List.map_nil tab_get tab_set s_segTab0 s_segTab s_putTabA s_putTabR s_fieldTab
end Go.Vc
