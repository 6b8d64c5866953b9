/- GroupPair: the pair's value. -/
import Derived.Test.YtbenllhoofoahaaFnR
namespace Go.Proofs.Ytbenllhoofoahaa
set_option linter.unusedSimpArgs false
set_option linter.unusedVariables false
open Go Go.Vc
/-- The zip's table, up to a place. -/
def zT (L : List (List Nat)) (i j a b : Nat) : UInt8 := if (a < i ∧ b ∈ L.getD a []) ∨ (a = i ∧ b ∈ (L.getD a []).take j) then 1 else 0
theorem zT_0 (L : List (List Nat)) : zT L 0 0 = fun _ _ => 0 := by
  funext a b
  unfold zT
  rw [if_neg (by rintro (⟨h, _⟩ | ⟨_, h⟩); omega; simp at h)]
theorem zT_row (L : List (List Nat)) (i : Nat) : zT L i (L.getD i []).length = zT L (i + 1) 0 := by
  funext a b
  unfold zT
  congr 1
  apply propext
  constructor
  · rintro (⟨h1, h2⟩ | ⟨rfl, h2⟩)
    · exact .inl ⟨by omega, h2⟩
    · exact .inl ⟨by omega, by simpa using h2⟩
  · rintro (⟨h1, h2⟩ | ⟨rfl, h2⟩)
    · by_cases h : a = i
      · subst h; exact .inr ⟨rfl, by simpa using h2⟩
      · exact .inl ⟨by omega, h2⟩
    · simp at h2
theorem mem_take_succ {l : List Nat} {j b : Nat} (hj : j < l.length) : b ∈ l.take (j + 1) ↔ b ∈ l.take j ∨ b = l.getD j 0 := by
  rw [List.take_add_one, List.getD_eq_getElem?_getD, List.getElem?_eq_getElem hj]
  simp only [Option.toList_some, List.mem_append, List.mem_singleton, Option.getD_some]
theorem zT_set (L : List (List Nat)) (i j : Nat) (hj : j < (L.getD i []).length) : set2 (zT L i j) i ((L.getD i []).getD j 0) 1 = zT L i (j + 1) := by
  funext a b
  unfold set2 zT
  by_cases h : a = i ∧ b = (L.getD i []).getD j 0
  · obtain ⟨rfl, rfl⟩ := h
    rw [if_pos ⟨rfl, rfl⟩, if_pos (.inr ⟨rfl, (mem_take_succ hj).2 (.inr rfl)⟩)]
  · rw [if_neg h]
    congr 1
    apply propext
    constructor
    · rintro (h1 | ⟨rfl, h2⟩)
      · exact .inl h1
      · exact .inr ⟨rfl, (mem_take_succ hj).2 (.inl h2)⟩
    · rintro (h1 | ⟨rfl, h2⟩)
      · exact .inl h1
      · rcases (mem_take_succ hj).1 h2 with h3 | h3
        · exact .inr ⟨rfl, h3⟩
        · exact (h ⟨rfl, h3⟩).elim
end Go.Proofs.Ytbenllhoofoahaa

