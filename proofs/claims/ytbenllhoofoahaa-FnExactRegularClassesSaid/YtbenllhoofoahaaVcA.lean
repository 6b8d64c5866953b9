/- A small program logic over the kit's Code.wp and Calls: what is known of memory, states, pure operations. Plain definitions and theorems. -/
import Derived.Laws.Tables
import Derived.Laws.Cells
import Derived.Laws.IdiomCopy
import Derived.Deep.MidRow
import Derived.Orders
import Derived.Below
import Derived.WideLaws
namespace Go.Vc
open Go.RowKit
set_option linter.unusedVariables false
set_option linter.unusedSimpArgs false

/-- What is known of a block: its element type, its first cells, how many cells it has. -/
structure Ent where
  ty : TypeId
  cs : List Value
  tot : Nat

abbrev Mem := Nat → Option Ent
abbrev Env := Nat → Value

/-- A map, changed at one place. -/
def upd {α : Type} (f : Nat → α) (k : Nat) (x : α) : Nat → α := fun b => if b = k then x else f b

theorem upd_same {α : Type} (f : Nat → α) (k : Nat) (x : α) : upd f k x k = x := by simp [upd]
theorem upd_ne {α : Type} {f : Nat → α} {k b : Nat} {x : α} (h : b ≠ k) : upd f k x b = f b := by simp [upd, h]
theorem upd_comm {α : Type} (f : Nat → α) {k l : Nat} (x y : α) (h : k ≠ l) : upd (upd f k x) l y = upd (upd f l y) k x := by
  funext b
  simp only [upd]
  by_cases h1 : b = k
  · subst h1; simp [h]
  · by_cases h2 : b = l
    · subst h2; simp [h1]
    · simp [h1, h2]
theorem upd_upd {α : Type} (f : Nat → α) (k : Nat) (x y : α) : upd (upd f k x) k y = upd f k y := by
  funext b; simp only [upd]; split <;> rfl

/-- One map beside another: the first one counts. -/
def over (f g : Mem) : Mem := fun b => (f b).or (g b)

def none' : Mem := fun _ => none

/-- One map is part of another. -/
def Le (f g : Mem) : Prop := ∀ b e, f b = some e → g b = some e

theorem Le.refl (f : Mem) : Le f f := fun _ _ h => h
theorem Le.trans {f g h : Mem} (a : Le f g) (b : Le g h) : Le f h := fun x e he => b x e (a x e he)
theorem Le.upd {f g : Mem} (h : Le f g) (k : Nat) (e : Option Ent) (hk : f k = none ∨ f k = e) : Le f (Vc.upd g k e) := by
  intro b x hx
  by_cases hb : b = k
  · subst hb
    rcases hk with hk | hk
    · rw [hk] at hx; cases hx
    · rw [upd_same, ← hk]; exact hx
  · rw [upd_ne hb]; exact h b x hx
theorem Le.updBoth {f g : Mem} (h : Le f g) (k : Nat) (e : Option Ent) : Le (Vc.upd f k e) (Vc.upd g k e) := by
  intro b x hx
  by_cases hb : b = k
  · subst hb; rw [upd_same] at hx ⊢; exact hx
  · rw [upd_ne hb] at hx ⊢; exact h b x hx
theorem Le.none (g : Mem) : Le none' g := fun _ _ h => by cases h
theorem Le.over {f f' g g' : Mem} (h1 : Le f f') (h2 : Le g g') (hd : ∀ b e, g b = some e → f' b = Option.none ∨ f b ≠ Option.none) : Le (over f g) (over f' g') := by
  intro b e he
  simp only [Vc.over] at he ⊢
  cases hf : f b with
  | some x => rw [hf] at he; rw [h1 b x hf]; exact he
  | none =>
    rw [hf] at he
    simp only [Option.none_or] at he
    rcases hd b e he with h | h
    · rw [h]; simp only [Option.none_or]; exact h2 b e he
    · exact absurd hf h
theorem over_none' (f : Mem) : over f none' = f := by funext b; simp [over, none']
theorem none'_over (f : Mem) : over none' f = f := by funext b; simp [over, none']

/-! ### Worlds -/
/-- The block begins with these cells. -/
def Knows (w : World) (b : Nat) (e : Ent) : Prop :=
  ∃ sp fr, w.heap[b]? = some (.cells (e.cs ++ sp).toArray e.ty fr) ∧ e.cs.length + sp.length = e.tot
/-- It does, and no cell of it is frozen. -/
def Owns (w : World) (b : Nat) (e : Ent) : Prop :=
  ∃ sp, w.heap[b]? = some (.cells (e.cs ++ sp).toArray e.ty (0, 0)) ∧ e.cs.length + sp.length = e.tot
theorem Owns.knows {w : World} {b : Nat} {e : Ent} (h : Owns w b e) : Knows w b e := by
  obtain ⟨sp, h1, h2⟩ := h; exact ⟨sp, _, h1, h2⟩
theorem Knows.lt {w : World} {b : Nat} {e : Ent} (h : Knows w b e) : b < w.heap.size := by
  obtain ⟨sp, fr, h1, h2⟩ := h; exact (Array.getElem?_eq_some_iff.1 h1).1
theorem Owns.lt {w : World} {b : Nat} {e : Ent} (h : Owns w b e) : b < w.heap.size := h.knows.lt
theorem Knows.of_same {w w' : World} {b : Nat} {e : Ent} (h : Knows w b e) (hh : w'.heap[b]? = w.heap[b]?) : Knows w' b e := by
  obtain ⟨sp, fr, h1, h2⟩ := h; exact ⟨sp, fr, hh.trans h1, h2⟩
theorem Owns.of_same {w w' : World} {b : Nat} {e : Ent} (h : Owns w b e) (hh : w'.heap[b]? = w.heap[b]?) : Owns w' b e := by
  obtain ⟨sp, h1, h2⟩ := h; exact ⟨sp, hh.trans h1, h2⟩
theorem Knows.cell {w : World} {b : Nat} {e : Ent} (h : Knows w b e) {j : Nat} {v : Value} (hv : e.cs[j]? = some v) : w.cell? ⟨b, j, none⟩ = some v := by
  obtain ⟨sp, fr, h1, h2⟩ := h
  have hj : j < e.cs.length := (List.getElem?_eq_some_iff.1 hv).1
  simp only [World.cell?, h1]
  simp [List.getElem?_append_left hj, hv]
theorem Owns.free {w : World} {b : Nat} {e : Ent} (h : Owns w b e) (j : Nat) : w.frozen? ⟨b, j, none⟩ = false := by
  obtain ⟨sp, h1, h2⟩ := h
  simp [World.frozen?, h1]

/-- Below block B, but for the blocks that are lent, the world is as it was. -/
structure Same (B : Nat) (X : Mem) (w w' : World) : Prop where
  os : w'.os = w.os
  tape : w'.tape = w.tape
  output : w'.output = w.output
  size : w.heap.size ≤ w'.heap.size
  block : ∀ k, k < B → X k = none → w'.heap[k]? = w.heap[k]?
theorem Same.refl (B : Nat) (X : Mem) (w : World) : Same B X w w := ⟨rfl, rfl, rfl, Nat.le_refl _, fun _ _ _ => rfl⟩
theorem Same.trans {B : Nat} {X : Mem} {a b c : World} (h : Same B X a b) (k : Same B X b c) : Same B X a c :=
  ⟨k.os.trans h.os, k.tape.trans h.tape, k.output.trans h.output, Nat.le_trans h.size k.size, fun i hi hx => (k.block i hi hx).trans (h.block i hi hx)⟩
theorem Same.below {B : Nat} {w w' : World} (h : Same B none' w w') : Below B w w' := ⟨h.os, h.tape, h.output, h.size, fun k hk => h.block k hk rfl⟩
theorem Same.of_below {B : Nat} {w w' : World} (h : Below B w w') (X : Mem) : Same B X w w' := ⟨h.os, h.tape, h.output, h.size, fun k hk _ => h.block k hk⟩

/-- What a walk knows of the world: w0 is the world of the call; κ what is known of it for good; X what was lent; ψ what has been laid down since; M what is the call's own. -/
structure Sat (w0 : World) (κ X ψ M : Mem) (w : World) : Prop where
  same : Same w0.heap.size X w0 w
  own : ∀ b e, M b = some e → (w0.heap.size ≤ b ∨ X b ≠ none) ∧ Owns w b e
  laid : ∀ b e, ψ b = some e → w0.heap.size ≤ b ∧ Knows w b e ∧ M b = none
  known : ∀ b e, κ b = some e → b < w0.heap.size ∧ X b = none ∧ Knows w0 b e

variable {w0 w w' : World} {κ X ψ M : Mem}

theorem Sat.kn (h : Sat w0 κ X ψ M w) {b : Nat} {e : Ent} (hb : κ b = some e) : Knows w b e := by
  obtain ⟨h1, h2, h3⟩ := h.known b e hb
  exact h3.of_same (h.same.block b h1 h2)
/-- All that is known. -/
def all (κ ψ M : Mem) : Mem := over M (over ψ κ)
theorem Sat.knows (h : Sat w0 κ X ψ M w) {b : Nat} {e : Ent} (hb : all κ ψ M b = some e) : Knows w b e := by
  simp only [all, over] at hb
  cases hm : M b with
  | some x => rw [hm] at hb; simp only [Option.some_or, Option.some.injEq] at hb; subst hb; exact (h.own b x hm).2.knows
  | none =>
    rw [hm] at hb
    cases hp : ψ b with
    | some x => rw [hp] at hb; simp only [Option.none_or, Option.some_or, Option.some.injEq] at hb; subst hb; exact (h.laid b x hp).2.1
    | none => rw [hp] at hb; simp only [Option.none_or] at hb; exact h.kn hb
theorem Sat.fresh (h : Sat w0 κ X ψ M w) {g : Nat} (hg : w.heap.size ≤ g) : M g = none ∧ ψ g = none ∧ κ g = none := by
  refine ⟨?_, ?_, ?_⟩
  · cases hm : M g with
    | none => rfl
    | some e => have := (h.own g e hm).2.lt; omega
  · cases hm : ψ g with
    | none => rfl
    | some e => have := (h.laid g e hm).2.1.lt; omega
  · cases hm : κ g with
    | none => rfl
    | some e => have := (h.kn hm).lt; omega
/-- Another world in which all old blocks but the lent ones read as they did. -/
theorem Sat.step (h : Sat w0 κ X ψ M w) (hb : Same w.heap.size none' w w') : Sat w0 κ X ψ M w' :=
  ⟨h.same.trans ⟨hb.os, hb.tape, hb.output, hb.size, fun k hk _ => hb.block k (Nat.lt_of_lt_of_le hk h.same.size) rfl⟩,
   fun b e he => ⟨(h.own b e he).1, (h.own b e he).2.of_same (hb.block b (h.own b e he).2.lt rfl)⟩,
   fun b e he => ⟨(h.laid b e he).1, (h.laid b e he).2.1.of_same (hb.block b (h.laid b e he).2.1.lt rfl), (h.laid b e he).2.2⟩,
   h.known⟩
theorem Sat.drew (h : Sat w0 κ X ψ M w) : Sat w0 κ X ψ M { w with drawn := w.drawn + 1 } :=
  h.step ⟨rfl, rfl, rfl, Nat.le_refl _, fun _ _ _ => rfl⟩
theorem Same.alloc (w : World) (o : Obj) : Same w.heap.size none' w (w.alloc o) :=
  ⟨rfl, rfl, rfl, by simp, fun k hk _ => Below.heap_alloc w o k hk⟩
theorem Sat.alloc (h : Sat w0 κ X ψ M w) (cs : List Value) (t : TypeId) :
    Sat w0 κ X ψ (upd M w.heap.size (some ⟨t, cs, cs.length⟩)) (w.alloc (.cells cs.toArray t)) := by
  have hf := h.fresh (Nat.le_refl _)
  have h1 := h.step (Same.alloc w (.cells cs.toArray t))
  refine ⟨h1.same, fun b e he => ?_, fun b e he => ?_, h1.known⟩
  · by_cases hb : b = w.heap.size
    · subst hb
      rw [upd_same] at he
      simp only [Option.some.injEq] at he
      subst he
      exact ⟨.inl h.same.size, [], by rw [heap_alloc_new]; simp, by simp⟩
    · rw [upd_ne hb] at he; exact h1.own b e he
  · have hb : b ≠ w.heap.size := fun e' => by subst e'; rw [hf.2.1] at he; cases he
    rw [upd_ne hb]; exact h1.laid b e he
/-- Forgetting, and laying down. -/
theorem Sat.less (h : Sat w0 κ X ψ M w) {M' ψ' : Mem} (hM : Le M' M) (hψ : ∀ b e, ψ' b = some e → (ψ b = some e ∨ (M b = some e ∧ w0.heap.size ≤ b)) ∧ M' b = none) : Sat w0 κ X ψ' M' w :=
  ⟨h.same, fun b e he => h.own b e (hM b e he), fun b e he => by
    obtain ⟨h1, h2⟩ := hψ b e he
    rcases h1 with h1 | ⟨h1, h3⟩
    · exact ⟨(h.laid b e h1).1, (h.laid b e h1).2.1, h2⟩
    · exact ⟨h3, (h.own b e h1).2.knows, h2⟩, h.known⟩

/-! ### Stores into an own block -/
theorem setCells_heap (b : Nat) : ∀ (vs : List Value) (o : Nat) (w : World) (cs : List Value) (t : TypeId) (fr : Nat × Nat), w.heap[b]? = some (.cells cs.toArray t fr) → o + vs.length ≤ cs.length →
    (w.setCells b o vs).heap[b]? = some (.cells (cs.take o ++ vs ++ cs.drop (o + vs.length)).toArray t fr)
  | [], o, w, cs, t, fr, h, hl => by simp [World.setCells, h]
  | v :: r, o, w, cs, t, fr, h, hl => by
    rw [World.setCells]
    have h1 : (w.setCell ⟨b, o, none⟩ v).heap[b]? = some (.cells (cs.set o v).toArray t fr) := by
      simp [World.setCell, Array.getElem?_modify, h]
    have := setCells_heap b r (o + 1) _ _ t fr h1 (by simp at hl ⊢; omega)
    rw [this]
    have ho : o < cs.length := by simp at hl; omega
    have e1 : (cs.set o v).take (o + 1) = cs.take o ++ [v] := by
      rw [List.take_add_one, List.getElem?_set_self ho]
      simp [List.take_set_of_le]
    have e2 : (cs.set o v).drop (o + 1 + r.length) = cs.drop (o + (v :: r).length) := by
      rw [List.drop_set_of_lt (by omega)]
      congr 1
      simp; omega
    rw [e1, e2]
    simp
theorem setCells_other (b : Nat) : ∀ (vs : List Value) (o : Nat) (w : World) (k : Nat), k ≠ b → (w.setCells b o vs).heap[k]? = w.heap[k]?
  | [], _, _, _, _ => rfl
  | v :: r, o, w, k, hk => by rw [World.setCells, setCells_other b r _ _ k hk, Below.heap_setCell _ _ _ _ hk]
theorem setCells_rest (b : Nat) : ∀ (vs : List Value) (o : Nat) (w : World), (w.setCells b o vs).os = w.os ∧ (w.setCells b o vs).tape = w.tape ∧ (w.setCells b o vs).output = w.output ∧ (w.setCells b o vs).heap.size = w.heap.size
  | [], _, _ => ⟨rfl, rfl, rfl, rfl⟩
  | v :: r, o, w => by
    rw [World.setCells]
    obtain ⟨h1, h2, h3, h4⟩ := setCells_rest b r (o + 1) (w.setCell ⟨b, o, none⟩ v)
    exact ⟨h1, h2, h3, by rw [h4]; simp [World.setCell]⟩
/-- The cells of a list from one place on, exchanged. -/
def put (cs : List Value) (o : Nat) (vs : List Value) : List Value := cs.take o ++ vs ++ cs.drop (o + vs.length)
theorem put_length (cs : List Value) (o : Nat) (vs : List Value) (h : o + vs.length ≤ cs.length) : (put cs o vs).length = cs.length := by
  simp [put]; omega
theorem put_one (cs : List Value) (o : Nat) (v : Value) (h : o < cs.length) : put cs o [v] = cs.set o v := by
  rw [List.set_eq_take_append_cons_drop, if_pos h]; simp [put]
theorem put_append (cs sp : List Value) (o : Nat) (vs : List Value) (h : o + vs.length ≤ cs.length) : put (cs ++ sp) o vs = put cs o vs ++ sp := by
  simp only [put]
  rw [List.take_append_of_le_length (by omega), List.drop_append_of_le_length (by omega)]
  simp
theorem Sat.store (h : Sat w0 κ X ψ M w) {b o : Nat} {e : Ent} {vs : List Value} (he : M b = some e) (hl : o + vs.length ≤ e.cs.length) :
    Sat w0 κ X ψ (upd M b (some { e with cs := put e.cs o vs })) (w.setCells b o vs) := by
  obtain ⟨hB, sp, h1, h2⟩ := h.own b e he
  obtain ⟨r1, r2, r3, r4⟩ := setCells_rest b vs o w
  have hn := setCells_heap b vs o w _ _ _ h1 (by simp; omega)
  have hX : w0.heap.size ≤ b ∨ X b ≠ none := hB
  refine ⟨h.same.trans ⟨r1, r2, r3, by rw [r4]; exact Nat.le_refl _, fun k hk hx => setCells_other b vs o w k (fun e' => by subst e'; rcases hX with hX | hX; omega; exact hX hx)⟩,
    fun b' e' he' => ?_, fun b' e' he' => ?_, h.known⟩
  · by_cases hb : b' = b
    · subst hb
      rw [upd_same] at he'
      simp only [Option.some.injEq] at he'
      subst he'
      refine ⟨hB, sp, ?_, by rw [put_length _ _ _ hl]; exact h2⟩
      rw [hn]
      congr 2
      exact congrArg List.toArray (put_append e.cs sp o vs hl)
    · rw [upd_ne hb] at he'
      exact ⟨(h.own b' e' he').1, (h.own b' e' he').2.of_same (setCells_other b vs o w b' hb)⟩
  · have hb : b' ≠ b := fun e'' => by subst e''; rw [(h.laid b' e' he').2.2] at he; cases he
    exact ⟨(h.laid b' e' he').1, (h.laid b' e' he').2.1.of_same (setCells_other b vs o w b' hb), by rw [upd_ne hb]; exact (h.laid b' e' he').2.2⟩
end Go.Vc
