/- Slices that are read, whoever owns them; function values. -/
import Derived.Test.YtbenllhoofoahaaVcM
namespace Go.Vc
open Go.RowKit
set_option linter.unusedVariables false
set_option linter.unusedSimpArgs false
/-- A slice of n elements of one cell each, of which C tells. -/
def Sl (A : Mem) (n : Nat) (v : Value) (C : Nat → Value → Prop) : Prop :=
  ∃ (p : Option Addr) (c : Nat), v = .slice p n c ∧ n ≤ c ∧ c ≤ maxLen ∧ ∀ i, i < n → ∃ (b o : Nat) (T : TypeId) (cs : List Value) (t : Nat) (u : Value), p = some ⟨b, o, none⟩ ∧ A b = some ⟨T, cs, t⟩ ∧ cs[o + i]? = some u ∧ C i u
theorem Sl.mono {A A' : Mem} {n : Nat} {v : Value} {C C' : Nat → Value → Prop} (h : Sl A n v C) (hA : Le A A') (hC : ∀ i u, i < n → C i u → C' i u) : Sl A' n v C' := by
  obtain ⟨p, c, h1, h2, h3, h4⟩ := h
  refine ⟨p, c, h1, h2, h3, fun i hi => ?_⟩
  obtain ⟨b, o, T, cs, t, u, q1, q2, q3, q4⟩ := h4 i hi
  exact ⟨b, o, T, cs, t, u, q1, hA _ _ q2, q3, hC i u hi q4⟩
/-- A slice of numbers, and one of such slices. -/
def Row (A : Mem) (v : Value) (l : List Int) : Prop := Sl A l.length v fun i u => u = i64 (l.getD i 0)
def Tbl (A : Mem) (v : Value) (L : List (List Int)) : Prop := Sl A L.length v fun i u => Row A u (L.getD i [])
theorem Row.mono {A A' : Mem} {v : Value} {l : List Int} (h : Row A v l) (hA : Le A A') : Row A' v l := Sl.mono h hA fun _ _ _ h => h
theorem Tbl.mono {A A' : Mem} {v : Value} {L : List (List Int)} (h : Tbl A v L) (hA : Le A A') : Tbl A' v L := Sl.mono h hA fun _ _ _ h => Row.mono h hA
theorem le_all {κ ψ M : Mem} (h : Apart κ ψ M) : Le κ (all κ ψ M) := fun b e hb => by
  obtain ⟨h1, h2⟩ := (h b e).1 hb
  simp only [all, over, h1, h2, hb, Option.none_or]
theorem le_own {κ ψ M : Mem} : Le M (all κ ψ M) := fun b e hb => by simp only [all, over, hb, Option.some_or]
theorem le_laid {κ ψ M : Mem} (h : Apart κ ψ M) : Le ψ (all κ ψ M) := fun b e hb => by
  have h1 := (h b e).2 hb
  simp only [all, over, h1, hb, Option.none_or, Option.some_or]
/-- What is known of memory that a call makes stays known. -/
theorem all_new {κ ψ M : Mem} {p : Nat} {e : Option Ent} (p1 : M p = none) (p2 : ψ p = none) (p3 : κ p = none) : Le (all κ ψ M) (all κ ψ (upd M p e)) := fun b x hb => by
  have : b ≠ p := fun hbp => by subst hbp; simp only [all, over, p1, p2, p3, Option.none_or] at hb; cases hb
  simpa only [all, over, upd_ne this] using hb
theorem le_new' {M : Mem} {r : Nat} {e : Option Ent} (h : M r = none) : Le M (upd M r e) := fun k x hk => by
  rw [upd_ne fun e => by rw [e, h] at hk; cases hk]; exact hk
/-- A function value that returns a plain value. -/
def GivesF (P : Program) (fv : Value) (args : List Value) (κ : Mem) (v : Value) : Prop :=
  ∃ (id : FuncId) (first cap : Array Value), fv = .func (.func id) first cap ∧ Gives P id (first ++ args.toArray ++ cap).toList κ v
theorem callB_gf {P : Program} {κ M ψ : Mem} {fv : Value} {args : Array Value} {v : Value} {F : Value → Mem → Mem → Prop} (h : GivesF P fv args.toList (all κ ψ M) v) (hk : F v M ψ) : @callB P κ fv args ⟨F⟩ M ψ := by
  obtain ⟨id, first, cap, rfl, h⟩ := h
  exact callB_fv (l := (first ++ args ++ cap).toList) rfl (by simpa using h) hk
def fstIdx (n : Nat) (t : Nat → Bool) : Int := match (List.range n).find? t with | some i => i | none => -1
theorem fstIdx_some {n i : Nat} {t : Nat → Bool} (hi : i < n) (h : t i = true) (h0 : ∀ j < i, t j = false) : fstIdx n t = i := by
  have : (List.range n).find? t = some i := by
    rw [List.find?_range_eq_some]
    exact ⟨h, by simpa using hi, fun j hj => by simp [h0 j hj]⟩
  unfold fstIdx; rw [this]
theorem fstIdx_none {n : Nat} {t : Nat → Bool} (h0 : ∀ j < n, t j = false) : fstIdx n t = -1 := by
  have : (List.range n).find? t = none := by
    rw [List.find?_range_eq_none]
    exact fun j hj => by simp [h0 j hj]
  unfold fstIdx; rw [this]
theorem fstIdx_ge (n : Nat) (t : Nat → Bool) : decide (0 ≤ fstIdx n t) = (List.range n).any t := by
  unfold fstIdx
  cases h : (List.range n).find? t with
  | none =>
    rw [List.find?_eq_none] at h
    have : (List.range n).any t = false := by rw [List.any_eq_false]; exact h
    rw [this]; rfl
  | some i =>
    have h1 := List.mem_of_find?_eq_some h
    have h2 := List.find?_some h
    have : (List.range n).any t = true := by rw [List.any_eq_true]; exact ⟨i, h1, h2⟩
    rw [this]; simp
theorem fstIdx_range (n : Nat) (t : Nat → Bool) : -1 ≤ fstIdx n t ∧ fstIdx n t < n := by
  unfold fstIdx
  cases h : (List.range n).find? t with
  | none => simp only; omega
  | some i => have h1 := List.mem_of_find?_eq_some h; simp at h1; simp only; omega
theorem maxLen_lt : maxLen ≤ 9223372036854775807 := by decide
/-- All blocks of cells of a world. -/
def seen (w : World) : Mem := fun b => match w.heap[b]? with | some (.cells cs ty _) => some ⟨ty, cs.toList, cs.size⟩ | _ => none
theorem Sat.startAll (w : World) : Sat w (seen w) none' none' none' w := by
  refine ⟨Same.refl _ _ _, fun b e h => by (cases h), fun b e h => by (cases h), fun b e h => ?_⟩
  unfold seen at h
  split at h
  · rename_i cs ty fr hb
    simp only [Option.some.injEq] at h; subst h
    exact ⟨(Array.getElem?_eq_some_iff.1 hb).1, rfl, [], fr, by simpa using hb, by simp⟩
  · cases h
theorem seen_cell {w : World} {a : Addr} {v : Value} (h : w.cell? a = some v) : a.spot = none ∧ ∃ T cs t, seen w a.block = some ⟨T, cs, t⟩ ∧ cs[a.off]? = some v := by
  unfold World.cell? at h
  split at h
  · rename_i c ty fr hb
    by_cases hs : a.spot.isSome = true
    · rw [if_pos hs] at h; cases h
    · rw [if_neg hs] at h
      refine ⟨by simpa using hs, ty, c.toList, c.size, ?_, by simpa using h⟩
      unfold seen; rw [hb]
  · cases h
theorem calls_seen {P : Program} {f : FuncId} {args : Array Value} {V : Value} {w : World} (h : CallsX P f args none' (seen w) (fun v M ψ => v = V)) : Calls P f args w fun e w' => e = .returned V ∧ Below w.heap.size w w' := by
  refine (h.2 w (Sat.startAll w)).mono fun e w' h => ?_
  obtain ⟨v, M, ψ, rfl, rfl, hs⟩ := h
  exact ⟨rfl, hs.same.below⟩
/-- What is known for good lies apart from what is owned or laid down. -/
def ApK (κ ψ M : Mem) : Prop := ∀ b e, κ b = some e → M b = none ∧ ψ b = none
theorem Apart.k {κ ψ M : Mem} (h : Apart κ ψ M) : ApK κ ψ M := fun b e hb => (h b e).1 hb
theorem ApK.le {κ ψ M : Mem} (h : ApK κ ψ M) : Le κ (all κ ψ M) := fun b e hb => by
  obtain ⟨h1, h2⟩ := h b e hb
  simp only [all, over, h1, h2, hb, Option.none_or]
theorem ApK.none {κ : Mem} : ApK κ none' none' := fun b e _ => ⟨rfl, rfl⟩
theorem ApK.new {κ ψ M : Mem} {g : Nat} {e : Option Ent} (h : ApK κ ψ M) (g3 : κ g = Option.none) : ApK κ ψ (upd M g e) := fun b x hb => by
  have : b ≠ g := fun e => by rw [e, g3] at hb; cases hb
  rw [upd_ne this]; exact h b x hb
theorem ApK.set {κ ψ M : Mem} {g : Nat} {e : Option Ent} {e0 : Ent} (h : ApK κ ψ M) (hg : M g = some e0) : ApK κ ψ (upd M g e) := fun b x hb => by
  have : b ≠ g := fun e => by rw [e] at hb; rw [(h g x hb).1] at hg; cases hg
  rw [upd_ne this]; exact h b x hb
theorem ApK.over {κ ψ M ψ' M' : Mem} (h : ApK κ ψ M) (ha : ∀ b, (M b ≠ Option.none ∨ ψ b ≠ Option.none ∨ κ b ≠ Option.none) → M' b = Option.none ∧ ψ' b = Option.none) : ApK κ (Vc.over ψ ψ') (Vc.over M M') := fun b x hb => by
  obtain ⟨h1, h2⟩ := h b x hb
  obtain ⟨h3, h4⟩ := ha b (.inr (.inr (by simp [hb])))
  simp [Vc.over, h1, h2, h3, h4]
theorem le_over1 {M M' : Mem} : Le M (over M M') := fun b e hb => by simp [over, hb]
theorem le_over2 {M M' : Mem} (h : ∀ b, M b ≠ none → M' b = none) : Le M' (over M M') := fun b e hb => by
  cases hm : M b with
  | none => simp [over, hm, hb]
  | some x => have := h b (by simp [hm]); rw [this] at hb; cases hb
/-- A call that is lent nothing and hands over memory of its own. -/
theorem callB_ownX {P : Program} {κ M ψ : Mem} {f : FuncId} {args : Array Value} {R : Value → Mem → Mem → Prop} {F : Value → Mem → Mem → Prop} (hk0 : ApK κ ψ M) (h : CallsX P f args none' (all κ ψ M) R)
    (hk : ∀ v M' ψ' M2 ψ2, R v M' ψ' → M2 = over M M' → Le M M2 → Le M' M2 → Le ψ ψ2 → (∀ b, M b ≠ none → M' b = none) → ApK κ ψ2 M2 → F v M2 ψ2) : @callB P κ (.func (.func f) #[] #[]) args ⟨F⟩ M ψ := by
  refine VCall0.vcall ⟨R, by simpa [CallsF] using h, fun v M' ψ' hR hap => ?_⟩
  have h1 : ∀ b, M b ≠ none → M' b = none := fun b hb => (hap b (.inl hb)).1
  exact hk v M' ψ' _ _ hR rfl le_over1 (le_over2 h1) le_over1 h1 (hk0.over hap)
/-- What is left of memory where some is lent. -/
def rest (M L : Mem) : Mem := fun b => if (L b).isNone = true then M b else none
theorem split_rest {M L : Mem} (h : Le L M) : Split M L (rest M L) := fun b => by
  cases hl : L b with
  | none => exact .inl ⟨rfl, by simp [rest, hl]⟩
  | some e => exact .inr ⟨by simp [rest, hl], (h b e hl).symm⟩
theorem le_rest {A M L : Mem} (h : Le A M) (ha : ∀ b, A b ≠ none → L b = none) : Le A (rest M L) := fun b e hb => by
  have := ha b (by simp [hb])
  simp [rest, this, h b e hb]
theorem callB_lend {P : Program} {κ M ψ : Mem} {f : FuncId} {args : Array Value} (L : Mem) {R : Value → Mem → Mem → Prop} {F : Value → Mem → Mem → Prop} (hk0 : ApK κ ψ M) (hL : Le L M) (h : CallsX P f args L (all κ ψ (rest M L)) R)
    (hk : ∀ v M' ψ' M2 ψ2, R v M' ψ' → Le (rest M L) M2 → Le ψ ψ2 → ApK κ ψ2 M2 → F v M2 ψ2) : @callB P κ (.func (.func f) #[] #[]) args ⟨F⟩ M ψ := by
  have hs := split_rest hL
  refine ⟨L, rest M L, R, hs, by simpa [CallsF] using h, fun v M' ψ' hR hap => ?_⟩
  refine hk v M' ψ' _ _ hR le_over1 le_over1 (ApK.over (fun b e hb => ?_) hap)
  obtain ⟨h1, h2⟩ := hk0 b e hb
  exact ⟨by simp [rest, h1], h2⟩
end Go.Vc
