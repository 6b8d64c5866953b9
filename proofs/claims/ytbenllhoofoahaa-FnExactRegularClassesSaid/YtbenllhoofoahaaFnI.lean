/- A group's products and inverses; classes as lists. -/
import Derived.Test.YtbenllhoofoahaaFnH
namespace Go.Proofs.Ytbenllhoofoahaa
set_option linter.unusedSimpArgs false
set_option linter.unusedVariables false
set_option maxRecDepth 4000
open Go Go.Vc
theorem least {p : Nat → Prop} : ∀ n, p n → ∃ j, p j ∧ ∀ k < j, ¬ p k := fun n => by
  induction n using Nat.strongRecOn with
  | _ n ih =>
    intro h
    by_cases hk : ∃ k < n, p k
    · obtain ⟨k, hk, hp⟩ := hk; exact ih k hk hp
    · exact ⟨n, h, fun k hk' hp => hk ⟨k, hk', hp⟩⟩
def mul (G : Grp) (i j : Nat) : Nat := (G.T i j).toNat
/-- The first place with product 0, or 0. -/
def inv (G : Grp) (n i : Nat) : Nat := (firstOr n (fun j => mul G i j = 0) 0).toNat
section
variable {G : Grp} {n : Nat} (hg : IsG G n)
include hg
theorem mul_lt {i j : Nat} (hi : i < n) (hj : j < n) : mul G i j < n := by
  have h6 := hg.1.2
  have := hg.2.1 i (by omega) j (by omega)
  unfold inTab at this; rwa [if_pos ⟨hi, hj⟩] at this
theorem mul_assoc {i j k : Nat} (hi : i < n) (hj : j < n) (hk : k < n) : mul G (mul G i j) k = mul G i (mul G j k) := by
  unfold mul; rw [(hg.2.2 i hi).2 j hj k hk]
theorem one_mul {i : Nat} (hi : i < n) : mul G 0 i = i := (hg.2.2 i hi).1.1
theorem mul_one {i : Nat} (hi : i < n) : mul G i 0 = i := (hg.2.2 i hi).1.2.1
theorem has_inv {i : Nat} (hi : i < n) : ∃ j < n, mul G i j = 0 ∧ mul G j i = 0 := (hg.2.2 i hi).1.2.2
theorem inv_two {i j : Nat} (hi : i < n) (hj : j < n) (h : mul G i j = 0) : mul G j i = 0 := by
  obtain ⟨k, hk, h1, h2⟩ := has_inv hg hi
  have e : j = k := by
    have := mul_assoc hg hk hi hj
    rwa [h2, h, one_mul hg hj, mul_one hg hk] at this
  rw [e]; exact h2
theorem inv_spec {i : Nat} (hi : i < n) : inv G n i < n ∧ mul G i (inv G n i) = 0 ∧ mul G (inv G n i) i = 0 ∧ firstOr n (fun j => mul G i j = 0) 0 = (inv G n i : Int) ∧ firstOr n (fun j => (G.T i j).toNat = 0 ∧ (G.T j i).toNat = 0) (-1) = (inv G n i : Int) := by
  obtain ⟨k, hk, h1, h2⟩ := has_inv hg hi
  have hex : ∃ j, j < n ∧ mul G i j = 0 := ⟨k, hk, h1⟩
  obtain ⟨j, hj, hmin⟩ : ∃ j, (j < n ∧ mul G i j = 0) ∧ ∀ k < j, ¬ (k < n ∧ mul G i k = 0) := least (p := fun j => j < n ∧ mul G i j = 0) k ⟨hk, h1⟩
  have e1 : firstOr n (fun j => mul G i j = 0) 0 = (j : Int) := firstOr_at hj.1 hj.2 fun k hk h => hmin k hk ⟨by omega, h⟩
  have e2 : inv G n i = j := by unfold inv; rw [e1]; rfl
  rw [e2, e1]
  exact ⟨hj.1, hj.2, inv_two hg hi hj.1 hj.2, rfl, firstOr_at hj.1 ⟨hj.2, inv_two hg hi hj.1 hj.2⟩ fun k hk h => hmin k hk ⟨by omega, h.1⟩⟩
end
theorem sp_inverse (κ : Mem) (G : Grp) (n : Nat) (hn : G.n = n) (h6 : n ≤ 6) (i : Nat) (hi : i < 6) :
    Gives Try.prog 51 [.agg (tab 37 (grpF G)).toArray, i64 i] κ (i64 (firstOr n (fun j => mul G i j = 0) 0)) := by
  refine gives_of (rs := [.tmp 4]) mixed Try.func51 rfl ok51 (by kernel_rfl) (by show 2 ≤ _; decide) rfl ?_
  simp (disch := first | omega | assumption | (simp only [tab_len, List.length_cons, List.length_append, List.length_set, List.length_nil, List.length_replicate, List.length_map, one_int, one_bool, one_slice, one_upd, one_lay, one_if, one_c, one_by8, one_row, one_sq, one_grp, nums_len, one_alg, one_num] <;> omega)) only [go_sem, ↓reduceIte, Nat.reduceEqDiff, Int.reduceAdd, Int.reduceSub]
  refine anew_intro fun p p1 p2 p3 => ?_
  have p0 := p1
  try simp only [upd_none] at p0
  simp (disch := first | omega | assumption | (simp only [tab_len, List.length_cons, List.length_append, List.length_set, List.length_nil, List.length_replicate, List.length_map, one_int, one_bool, one_slice, one_upd, one_lay, one_if, one_c, one_by8, one_row, one_sq, one_grp, nums_len, one_alg, one_num] <;> omega)) only [go_sem, ↓reduceIte, Nat.reduceEqDiff, Int.reduceAdd, Int.reduceSub]
  refine vc_up n 0 (fun j env M ψ => ψ = none' ∧ env 5 = .int .i64 j ∧ Has M p 35 (tab 37 (grpF G)) ∧ ∀ k < j, ¬ mul G i k = 0) (by omega) ?_ ?_
  · refine ⟨rfl, ?_, ?_, fun k hk => (by omega)⟩
    · simp (disch := first | omega | assumption | (simp only [tab_len, List.length_cons, List.length_append, List.length_set, List.length_nil, List.length_replicate, List.length_map, one_int, one_bool, one_slice, one_upd, one_lay, one_if, one_c, one_by8, one_row, one_sq, one_grp, nums_len, one_alg, one_num] <;> omega)) only [go_sem, ↓reduceIte, Nat.reduceEqDiff, Int.reduceAdd, Int.reduceSub]
    · simp (disch := first | omega | assumption | (simp only [tab_len, List.length_cons, List.length_append, List.length_set, List.length_nil, List.length_replicate, List.length_map, one_int, one_bool, one_slice, one_upd, one_lay, one_if, one_c, one_by8, one_row, one_sq, one_grp, nums_len, one_alg, one_num] <;> omega)) only [go_sem, ↓reduceIte, Nat.reduceEqDiff, Int.reduceAdd, Int.reduceSub, has_same, true_and]
  · rintro j env M ψ hj hf - ap ⟨rfl, e5, ⟨t, hp⟩, hk⟩ K hK
    have e1 := hf 1 (by kernel_rfl)
    have e2 := hf 2 (by kernel_rfl)
    simp (disch := first | omega | assumption | (simp only [tab_len, List.length_cons, List.length_append, List.length_set, List.length_nil, List.length_replicate, List.length_map, one_int, one_bool, one_slice, one_upd, one_lay, one_if, one_c, one_by8, one_row, one_sq, one_grp, nums_len, one_alg, one_num] <;> omega)) only [go_sem, ↓reduceIte, Nat.reduceEqDiff, Int.reduceAdd, Int.reduceSub] at e1
    simp (disch := first | omega | assumption | (simp only [tab_len, List.length_cons, List.length_append, List.length_set, List.length_nil, List.length_replicate, List.length_map, one_int, one_bool, one_slice, one_upd, one_lay, one_if, one_c, one_by8, one_row, one_sq, one_grp, nums_len, one_alg, one_num] <;> omega)) only [go_sem, ↓reduceIte, Nat.reduceEqDiff, Int.reduceAdd, Int.reduceSub] at e2
    simp (disch := first | omega | assumption | (simp only [tab_len, List.length_cons, List.length_append, List.length_set, List.length_nil, List.length_replicate, List.length_map, one_int, one_bool, one_slice, one_upd, one_lay, one_if, one_c, one_by8, one_row, one_sq, one_grp, nums_len, one_alg, one_num] <;> omega)) only [go_sem, ↓reduceIte, Nat.reduceEqDiff, Int.reduceAdd, Int.reduceSub, e2, e5, hp, grpF_0, hn]
    refine ifB_dec (fun h => ?_) (fun h => ?_)
    · simp (disch := first | omega | assumption | (simp only [tab_len, List.length_cons, List.length_append, List.length_set, List.length_nil, List.length_replicate, List.length_map, one_int, one_bool, one_slice, one_upd, one_lay, one_if, one_c, one_by8, one_row, one_sq, one_grp, nums_len, one_alg, one_num] <;> omega)) only [go_sem, ↓reduceIte, Nat.reduceEqDiff, Int.reduceAdd, Int.reduceSub, e1, e2, e5, hp, grpF_at]
      refine ifB_dec (fun h2 => ?_) (fun h2 => ?_)
      · simp (disch := first | omega | assumption | (simp only [tab_len, List.length_cons, List.length_append, List.length_set, List.length_nil, List.length_replicate, List.length_map, one_int, one_bool, one_slice, one_upd, one_lay, one_if, one_c, one_by8, one_row, one_sq, one_grp, nums_len, one_alg, one_num] <;> omega)) only [go_sem, ↓reduceIte, Nat.reduceEqDiff, Int.reduceAdd, Int.reduceSub, e5]
        refine up_plain ?_ (fun _ => rfl) rfl
        rw [firstOr_at (by omega) (by unfold mul; omega) hk]
      · simp (disch := first | omega | assumption | (simp only [tab_len, List.length_cons, List.length_append, List.length_set, List.length_nil, List.length_replicate, List.length_map, one_int, one_bool, one_slice, one_upd, one_lay, one_if, one_c, one_by8, one_row, one_sq, one_grp, nums_len, one_alg, one_num] <;> omega)) only [go_sem, ↓reduceIte, Nat.reduceEqDiff, Int.reduceAdd, Int.reduceSub, e5]
        refine hK _ _ _ (by omega) (Up.here ⟨rfl, ?_, ⟨_, hp⟩, all_succ hk (by unfold mul; omega)⟩)
        simp (disch := first | omega | assumption | (simp only [tab_len, List.length_cons, List.length_append, List.length_set, List.length_nil, List.length_replicate, List.length_map, one_int, one_bool, one_slice, one_upd, one_lay, one_if, one_c, one_by8, one_row, one_sq, one_grp, nums_len, one_alg, one_num] <;> omega)) only [go_sem, ↓reduceIte, Nat.reduceEqDiff, Int.reduceAdd, Int.reduceSub]
    · simp (disch := first | omega | assumption | (simp only [tab_len, List.length_cons, List.length_append, List.length_set, List.length_nil, List.length_replicate, List.length_map, one_int, one_bool, one_slice, one_upd, one_lay, one_if, one_c, one_by8, one_row, one_sq, one_grp, nums_len, one_alg, one_num] <;> omega)) only [go_sem, ↓reduceIte, Nat.reduceEqDiff, Int.reduceAdd, Int.reduceSub]
      refine up_plain ?_ (fun _ => rfl) rfl
      rw [firstOr_none fun k hk' => hk k (by omega)]
/-- The product of the first numbers of a list. -/
def prod (G : Grp) (l : Nat → Nat) : Nat → Nat
  | 0 => 0
  | k + 1 => mul G (prod G l k) (l k)
theorem sp_times (κ : Mem) (G : Grp) (n : Nat) (hg : IsG G n) (m b c ty : Nat) (l : Nat → Nat) (hm : m ≤ 1000) (hl : ∀ k < m, l k < n) (hb : Has κ b ty (tab m (numF fun k => l k))) :
    Gives Try.prog 50 [.agg (tab 37 (grpF G)).toArray, .slice (some ⟨b, 0, none⟩) m c] κ (i64 (prod G l m)) := by
  have h6 := hg.1
  have hb0 := hb
  obtain ⟨tb, hb⟩ := hb
  have hp : ∀ k ≤ m, prod G l k < n := fun k => by
    induction k with
    | zero => intro _; show 0 < n; omega
    | succ k ih => intro h; exact mul_lt hg (ih (by omega)) (hl k (by omega))
  refine gives_of (rs := [.tmp 4]) mixed Try.func50 rfl ok50 (by kernel_rfl) (by show 2 ≤ _; decide) rfl ?_
  simp (disch := first | omega | assumption | (simp only [tab_len, List.length_cons, List.length_append, List.length_set, List.length_nil, List.length_replicate, List.length_map, one_int, one_bool, one_slice, one_upd, one_lay, one_if, one_c, one_by8, one_row, one_sq, one_grp, nums_len, one_alg, one_num] <;> omega)) only [go_sem, ↓reduceIte, Nat.reduceEqDiff, Int.reduceAdd, Int.reduceSub]
  refine anew_intro fun p p1 p2 p3 => ?_
  have p0 := p1
  try simp only [upd_none] at p0
  simp (disch := first | omega | assumption | (simp only [tab_len, List.length_cons, List.length_append, List.length_set, List.length_nil, List.length_replicate, List.length_map, one_int, one_bool, one_slice, one_upd, one_lay, one_if, one_c, one_by8, one_row, one_sq, one_grp, nums_len, one_alg, one_num] <;> omega)) only [go_sem, ↓reduceIte, Nat.reduceEqDiff, Int.reduceAdd, Int.reduceSub]
  refine vc_up m 0 (fun j env M ψ => ψ = none' ∧ env 6 = .int .i64 j ∧ env 5 = .int .i64 (prod G l j) ∧ Has M p 35 (tab 37 (grpF G))) (by omega) ?_ ?_
  · refine ⟨rfl, ?_, ?_, ?_⟩
    · simp (disch := first | omega | assumption | (simp only [tab_len, List.length_cons, List.length_append, List.length_set, List.length_nil, List.length_replicate, List.length_map, one_int, one_bool, one_slice, one_upd, one_lay, one_if, one_c, one_by8, one_row, one_sq, one_grp, nums_len, one_alg, one_num] <;> omega)) only [go_sem, ↓reduceIte, Nat.reduceEqDiff, Int.reduceAdd, Int.reduceSub]
    · simp (disch := first | omega | assumption | (simp only [tab_len, List.length_cons, List.length_append, List.length_set, List.length_nil, List.length_replicate, List.length_map, one_int, one_bool, one_slice, one_upd, one_lay, one_if, one_c, one_by8, one_row, one_sq, one_grp, nums_len, one_alg, one_num] <;> omega)) only [go_sem, ↓reduceIte, Nat.reduceEqDiff, Int.reduceAdd, Int.reduceSub, prod]
    · simp (disch := first | omega | assumption | (simp only [tab_len, List.length_cons, List.length_append, List.length_set, List.length_nil, List.length_replicate, List.length_map, one_int, one_bool, one_slice, one_upd, one_lay, one_if, one_c, one_by8, one_row, one_sq, one_grp, nums_len, one_alg, one_num] <;> omega)) only [go_sem, ↓reduceIte, Nat.reduceEqDiff, Int.reduceAdd, Int.reduceSub, has_same, true_and]
  · rintro j env M ψ hj hf - ap ⟨rfl, e6, e5, t, hpp⟩ K hK
    have e1 := hf 1 (by kernel_rfl)
    have e2 := hf 2 (by kernel_rfl)
    simp (disch := first | omega | assumption | (simp only [tab_len, List.length_cons, List.length_append, List.length_set, List.length_nil, List.length_replicate, List.length_map, one_int, one_bool, one_slice, one_upd, one_lay, one_if, one_c, one_by8, one_row, one_sq, one_grp, nums_len, one_alg, one_num] <;> omega)) only [go_sem, ↓reduceIte, Nat.reduceEqDiff, Int.reduceAdd, Int.reduceSub] at e1
    simp (disch := first | omega | assumption | (simp only [tab_len, List.length_cons, List.length_append, List.length_set, List.length_nil, List.length_replicate, List.length_map, one_int, one_bool, one_slice, one_upd, one_lay, one_if, one_c, one_by8, one_row, one_sq, one_grp, nums_len, one_alg, one_num] <;> omega)) only [go_sem, ↓reduceIte, Nat.reduceEqDiff, Int.reduceAdd, Int.reduceSub] at e2
    simp (disch := first | omega | assumption | (simp only [tab_len, List.length_cons, List.length_append, List.length_set, List.length_nil, List.length_replicate, List.length_map, one_int, one_bool, one_slice, one_upd, one_lay, one_if, one_c, one_by8, one_row, one_sq, one_grp, nums_len, one_alg, one_num] <;> omega)) only [go_sem, ↓reduceIte, Nat.reduceEqDiff, Int.reduceAdd, Int.reduceSub, e1, e6]
    refine ifB_dec (fun h => ?_) (fun h => ?_)
    · have hM := ((ap b _).1 hb).1
      have q1 := hp j (by omega)
      have q2 := hl j (by omega)
      have q3 := (G.T (prod G l j) (l j)).toNat_lt
      simp (disch := first | omega | assumption | (simp only [tab_len, List.length_cons, List.length_append, List.length_set, List.length_nil, List.length_replicate, List.length_map, one_int, one_bool, one_slice, one_upd, one_lay, one_if, one_c, one_by8, one_row, one_sq, one_grp, nums_len, one_alg, one_num] <;> omega)) only [go_sem, ↓reduceIte, Nat.reduceEqDiff, Int.reduceAdd, Int.reduceSub, e1, e2, e5, e6]
      refine run_drawn [(0, []), (1, []), (2, []), (3, []), (4, []), (5, []), (6, []), (7, []), (8, []), (9, []), (10, [])] (by kernel_rfl) ?_
      simp (disch := first | omega | assumption | (simp only [tab_len, List.length_cons, List.length_append, List.length_set, List.length_nil, List.length_replicate, List.length_map, one_int, one_bool, one_slice, one_upd, one_lay, one_if, one_c, one_by8, one_row, one_sq, one_grp, nums_len, one_alg, one_num] <;> omega)) only [go_sem, ↓reduceIte, Nat.reduceEqDiff, Int.reduceAdd, Int.reduceSub, e1, e2, e5, e6, hb, hM, hpp, numF, grpF_at]
      refine hK _ _ _ (by omega) (Up.here ⟨rfl, ?_, ?_, ⟨_, hpp⟩⟩)
      · simp (disch := first | omega | assumption | (simp only [tab_len, List.length_cons, List.length_append, List.length_set, List.length_nil, List.length_replicate, List.length_map, one_int, one_bool, one_slice, one_upd, one_lay, one_if, one_c, one_by8, one_row, one_sq, one_grp, nums_len, one_alg, one_num] <;> omega)) only [go_sem, ↓reduceIte, Nat.reduceEqDiff, Int.reduceAdd, Int.reduceSub]
      · simp (disch := first | omega | assumption | (simp only [tab_len, List.length_cons, List.length_append, List.length_set, List.length_nil, List.length_replicate, List.length_map, one_int, one_bool, one_slice, one_upd, one_lay, one_if, one_c, one_by8, one_row, one_sq, one_grp, nums_len, one_alg, one_num] <;> omega)) only [go_sem, ↓reduceIte, Nat.reduceEqDiff, Int.reduceAdd, Int.reduceSub, prod, mul]
    · have : j = m := by omega
      subst this
      simp (disch := first | omega | assumption | (simp only [tab_len, List.length_cons, List.length_append, List.length_set, List.length_nil, List.length_replicate, List.length_map, one_int, one_bool, one_slice, one_upd, one_lay, one_if, one_c, one_by8, one_row, one_sq, one_grp, nums_len, one_alg, one_num] <;> omega)) only [go_sem, ↓reduceIte, Nat.reduceEqDiff, Int.reduceAdd, Int.reduceSub, e5]
      exact up_plain rfl (fun _ => rfl) rfl
end Go.Proofs.Ytbenllhoofoahaa

