/- Classes: the plain law that the reference's way and the program's are one. -/
import Derived.Test.YtbenllhoofoahaaFnK
namespace Go.Proofs.Ytbenllhoofoahaa
set_option linter.unusedSimpArgs false
set_option linter.unusedVariables false
open Go Go.Vc
section
variable {G : Grp} {n : Nat} (hg : IsG G n)
include hg
theorem rel_iff {x i j : Nat} (hx : x < n) (hi : i < n) (hj : j < n) : conj G n x i = j ↔ mul G x i = mul G j x := by
  obtain ⟨h1, h2, h3, _⟩ := inv_spec hg hx
  have m1 := mul_lt hg hx hi
  unfold conj
  constructor
  · intro h
    have := congrArg (fun z => mul G z x) h
    replace this : mul G (mul G (mul G x i) (inv G n x)) x = mul G j x := this
    rw [mul_assoc hg m1 h1 hx, h3, mul_one hg m1] at this
    exact this
  · intro h
    rw [h, mul_assoc hg hj hx h1, h2, mul_one hg hj]
theorem cl_rel {i j : Nat} (hi : i < n) (hj : j < n) : j ∈ cl G n i ↔ ∃ x < n, mul G x i = mul G j x := by
  rw [mem_cl]
  constructor
  · rintro ⟨_, x, hx, h⟩; exact ⟨x, hx, (rel_iff hg hx hi hj).1 h⟩
  · rintro ⟨x, hx, h⟩; exact ⟨hj, x, hx, (rel_iff hg hx hi hj).2 h⟩
theorem cl_symm {i j : Nat} (hi : i < n) (hj : j < n) (h : j ∈ cl G n i) : i ∈ cl G n j := by
  obtain ⟨x, hx, h⟩ := (cl_rel hg hi hj).1 h
  obtain ⟨y1, y2, y3, _⟩ := inv_spec hg hx
  refine (cl_rel hg hj hi).2 ⟨inv G n x, y1, ?_⟩
  have m1 := mul_lt hg hx hi
  have m2 := mul_lt hg hj hx
  have m3 := mul_lt hg y1 hj
  have e := congrArg (fun z => mul G (mul G (inv G n x) z) (inv G n x)) h
  replace e : mul G (mul G (inv G n x) (mul G x i)) (inv G n x) = mul G (mul G (inv G n x) (mul G j x)) (inv G n x) := e
  rw [← mul_assoc hg y1 hx hi, y3, one_mul hg hi, ← mul_assoc hg y1 hj hx, mul_assoc hg m3 hx y1, y2, mul_one hg m3] at e
  exact e.symm
theorem cl_trans {i j k : Nat} (hi : i < n) (hj : j < n) (hk : k < n) (h : j ∈ cl G n i) (h' : k ∈ cl G n j) : k ∈ cl G n i := by
  obtain ⟨x, hx, h⟩ := (cl_rel hg hi hj).1 h
  obtain ⟨y, hy, h'⟩ := (cl_rel hg hj hk).1 h'
  refine (cl_rel hg hi hk).2 ⟨mul G y x, mul_lt hg hy hx, ?_⟩
  rw [mul_assoc hg hy hx hi, h, ← mul_assoc hg hy hj hx, h', mul_assoc hg hk hy hx]
theorem cl_same {i j : Nat} (hi : i < n) (hj : j < n) (h : j ∈ cl G n i) : cl G n j = cl G n i := by
  have h' := cl_symm hg hi hj h
  unfold cl
  refine List.filter_congr fun k hk => ?_
  have hk : k < n := by simpa using hk
  have e : ((List.range n).any fun x => conj G n x j == k) = true ↔ ((List.range n).any fun x => conj G n x i == k) = true := by
    have e1 : ∀ a, ((List.range n).any fun x => conj G n x a == k) = true ↔ k ∈ cl G n a := fun a => by simp [mem_cl, hk, List.any_eq_true]
    rw [e1, e1]
    exact ⟨fun h2 => cl_trans hg hi hj hk h h2, fun h2 => cl_trans hg hj hi hk h' h2⟩
  cases h1 : ((List.range n).any fun x => conj G n x j == k) <;> cases h2 : ((List.range n).any fun x => conj G n x i == k) <;> simp_all
theorem rep_iff {i : Nat} (hi : i < n) : isRep G n i = true ↔ ∀ k ∈ cl G n i, i ≤ k := by
  have hs := self_cl hg hi
  have ha := cl_asc G n i
  unfold isRep
  cases hcl : cl G n i with
  | nil => rw [hcl] at hs; cases hs
  | cons a r =>
    rw [hcl] at hs ha
    have ha' := List.pairwise_cons.1 ha
    simp only [List.head?_cons, beq_iff_eq, Option.some.injEq]
    constructor
    · rintro rfl k hk
      rcases List.mem_cons.1 hk with rfl | hk
      · exact Nat.le_refl _
      · have := ha'.1 k hk; omega
    · intro h
      have := h a (by simp)
      rcases List.mem_cons.1 hs with rfl | hk
      · rfl
      · have := ha'.1 i hk; omega
theorem met_iff {i : Nat} (hi : i < n) : (∃ i' < i, isRep G n i' = true ∧ i ∈ cl G n i') ↔ ¬ isRep G n i = true := by
  constructor
  · rintro ⟨k, hk, h1, h2⟩ h3
    have := (rep_iff hg hi).1 h3 k (cl_symm hg (by omega) hi h2)
    omega
  · intro h
    have hp := cl_pos hg hi
    have hs := self_cl hg hi
    have ha := cl_asc G n i
    cases hcl : cl G n i with
    | nil => rw [hcl] at hp; simp at hp
    | cons a r =>
      have hm : a ∈ cl G n i := by rw [hcl]; simp
      have han : a < n := (mem_cl.1 hm).1
      have hsame := cl_same hg hi han hm
      have hr : isRep G n a = true := by unfold isRep; rw [hsame, hcl]; simp
      have hai : a ≤ i := by
        have := (rep_iff hg han).1 hr i (by rw [hsame]; exact hs)
        exact this
      have hne : a ≠ i := fun e => h (by rw [← e]; exact hr)
      exact ⟨a, by omega, hr, by rw [hsame]; exact hs⟩
end
def clUp (G : Grp) (n i j : Nat) : List Nat := (List.range j).filter fun j => (List.range n).any fun x => conj G n x i == j
theorem clUp_succ (G : Grp) (n i j : Nat) : clUp G n i (j + 1) = clUp G n i j ++ (if ((List.range n).any fun x => conj G n x i == j) = true then [j] else []) := by
  unfold clUp
  rw [List.range_succ, List.filter_append]
  congr 1
  by_cases h : ((List.range n).any fun x => conj G n x i == j) = true
  · simp [h]
  · simp [h]
theorem clUp_len (G : Grp) (n i j : Nat) : (clUp G n i j).length ≤ j := by
  have := List.length_filter_le (fun j => (List.range n).any fun x => conj G n x i == j) (List.range j)
  simpa [clUp] using this
end Go.Proofs.Ytbenllhoofoahaa

