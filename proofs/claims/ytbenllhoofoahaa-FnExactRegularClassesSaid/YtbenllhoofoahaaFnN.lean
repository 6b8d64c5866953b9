/- Inverses modulo a prime. -/
import Derived.Test.YtbenllhoofoahaaFnM
namespace Go.Proofs.Ytbenllhoofoahaa
set_option linter.unusedSimpArgs false
set_option linter.unusedVariables false
set_option maxRecDepth 4000
open Go Go.Vc
def pw (n p : Nat) : Nat → Nat
  | 0 => 1
  | k + 1 => pw n p k * n % p
theorem pw_lt {n p : Nat} (hp : 2 ≤ p) : ∀ k, pw n p k < p
  | 0 => by show 1 < p; omega
  | k + 1 => Nat.mod_lt _ (by omega)
theorem fn_power (κ : Mem) (n k p : Nat) (hp : 2 ≤ p ∧ p ≤ 13) (hn : n < p) (hk : k ≤ 20) : Gives Try.prog 44 [i64 n, i64 k, i64 p] κ (i64 (pw n p k)) := by
  refine gives_of (rs := [.tmp 6]) mixed Try.func44 rfl ok44 (by kernel_rfl) (by show 3 ≤ _; decide) rfl ?_
  simp (disch := first | omega | assumption | (simp only [tab_len, List.length_cons, List.length_append, List.length_set, List.length_nil, List.length_replicate, List.length_map, one_int, one_bool, one_slice, one_upd, one_lay, one_if, one_c, one_by8, one_row, one_sq, one_grp, nums_len, one_alg, one_num, one_boolF] <;> omega)) only [go_sem, ↓reduceIte, Nat.reduceEqDiff, Int.reduceAdd, Int.reduceSub]
  refine vc_up k 0 (fun i env M ψ => ψ = none' ∧ env 9 = .int .i64 i ∧ env 7 = .int .i64 (pw n p i)) (by omega) ?_ ?_
  · refine ⟨rfl, ?_, ?_⟩
    · simp (disch := first | omega | assumption | (simp only [tab_len, List.length_cons, List.length_append, List.length_set, List.length_nil, List.length_replicate, List.length_map, one_int, one_bool, one_slice, one_upd, one_lay, one_if, one_c, one_by8, one_row, one_sq, one_grp, nums_len, one_alg, one_num, one_boolF] <;> omega)) only [go_sem, ↓reduceIte, Nat.reduceEqDiff, Int.reduceAdd, Int.reduceSub]
    · simp (disch := first | omega | assumption | (simp only [tab_len, List.length_cons, List.length_append, List.length_set, List.length_nil, List.length_replicate, List.length_map, one_int, one_bool, one_slice, one_upd, one_lay, one_if, one_c, one_by8, one_row, one_sq, one_grp, nums_len, one_alg, one_num, one_boolF] <;> omega)) only [go_sem, ↓reduceIte, Nat.reduceEqDiff, Int.reduceAdd, Int.reduceSub, pw]
  · rintro i env M ψ hi hf - ap ⟨rfl, e9, e7⟩ K hK
    have e0 := hf 0 (by kernel_rfl)
    have e2 := hf 2 (by kernel_rfl)
    have e8 := hf 8 (by kernel_rfl)
    simp (disch := first | omega | assumption | (simp only [tab_len, List.length_cons, List.length_append, List.length_set, List.length_nil, List.length_replicate, List.length_map, one_int, one_bool, one_slice, one_upd, one_lay, one_if, one_c, one_by8, one_row, one_sq, one_grp, nums_len, one_alg, one_num, one_boolF] <;> omega)) only [go_sem, ↓reduceIte, Nat.reduceEqDiff, Int.reduceAdd, Int.reduceSub] at e0
    simp (disch := first | omega | assumption | (simp only [tab_len, List.length_cons, List.length_append, List.length_set, List.length_nil, List.length_replicate, List.length_map, one_int, one_bool, one_slice, one_upd, one_lay, one_if, one_c, one_by8, one_row, one_sq, one_grp, nums_len, one_alg, one_num, one_boolF] <;> omega)) only [go_sem, ↓reduceIte, Nat.reduceEqDiff, Int.reduceAdd, Int.reduceSub] at e2
    simp (disch := first | omega | assumption | (simp only [tab_len, List.length_cons, List.length_append, List.length_set, List.length_nil, List.length_replicate, List.length_map, one_int, one_bool, one_slice, one_upd, one_lay, one_if, one_c, one_by8, one_row, one_sq, one_grp, nums_len, one_alg, one_num, one_boolF] <;> omega)) only [go_sem, ↓reduceIte, Nat.reduceEqDiff, Int.reduceAdd, Int.reduceSub] at e8
    simp (disch := first | omega | assumption | (simp only [tab_len, List.length_cons, List.length_append, List.length_set, List.length_nil, List.length_replicate, List.length_map, one_int, one_bool, one_slice, one_upd, one_lay, one_if, one_c, one_by8, one_row, one_sq, one_grp, nums_len, one_alg, one_num, one_boolF] <;> omega)) only [go_sem, ↓reduceIte, Nat.reduceEqDiff, Int.reduceAdd, Int.reduceSub, e8, e9]
    refine ifB_dec (fun h => ?_) (fun h => ?_)
    · have h1 := pw_lt (n := n) hp.1 i
      have h2 : 0 ≤ ((pw n p i : Nat) : Int) * (n : Int) ∧ ((pw n p i : Nat) : Int) * (n : Int) ≤ 169 := by
        have : pw n p i * n ≤ 13 * 13 := Nat.mul_le_mul (by omega) (by omega)
        have e : ((pw n p i * n : Nat) : Int) = ((pw n p i : Nat) : Int) * (n : Int) := by simp
        omega
      have h3 : ((pw n p (i + 1) : Nat) : Int) = ((pw n p i : Nat) : Int) * (n : Int) % (p : Int) := by simp [pw]
      simp (disch := first | omega | assumption | (simp only [tab_len, List.length_cons, List.length_append, List.length_set, List.length_nil, List.length_replicate, List.length_map, one_int, one_bool, one_slice, one_upd, one_lay, one_if, one_c, one_by8, one_row, one_sq, one_grp, nums_len, one_alg, one_num, one_boolF] <;> omega)) only [go_sem, ↓reduceIte, Nat.reduceEqDiff, Int.reduceAdd, Int.reduceSub, e0, e2, e7, e9, s_tmod]
      refine hK _ _ _ (by omega) (Up.here ⟨rfl, ?_, ?_⟩)
      · simp (disch := first | omega | assumption | (simp only [tab_len, List.length_cons, List.length_append, List.length_set, List.length_nil, List.length_replicate, List.length_map, one_int, one_bool, one_slice, one_upd, one_lay, one_if, one_c, one_by8, one_row, one_sq, one_grp, nums_len, one_alg, one_num, one_boolF] <;> omega)) only [go_sem, ↓reduceIte, Nat.reduceEqDiff, Int.reduceAdd, Int.reduceSub]
      · rw [h3]
        simp (disch := first | omega | assumption | (simp only [tab_len, List.length_cons, List.length_append, List.length_set, List.length_nil, List.length_replicate, List.length_map, one_int, one_bool, one_slice, one_upd, one_lay, one_if, one_c, one_by8, one_row, one_sq, one_grp, nums_len, one_alg, one_num, one_boolF] <;> omega)) only [go_sem, ↓reduceIte, Nat.reduceEqDiff, Int.reduceAdd, Int.reduceSub]
    · have : i = k := by omega
      subst this
      simp (disch := first | omega | assumption | (simp only [tab_len, List.length_cons, List.length_append, List.length_set, List.length_nil, List.length_replicate, List.length_map, one_int, one_bool, one_slice, one_upd, one_lay, one_if, one_c, one_by8, one_row, one_sq, one_grp, nums_len, one_alg, one_num, one_boolF] <;> omega)) only [go_sem, ↓reduceIte, Nat.reduceEqDiff, Int.reduceAdd, Int.reduceSub, e7]
      exact up_plain rfl (fun _ => rfl) rfl
theorem fn_inverseP (κ : Mem) (n p : Nat) (hp : 2 ≤ p ∧ p ≤ 13) (hn : n < p) : Gives Try.prog 24 [i64 n, i64 p] κ (i64 (pw n p (p - 2))) := by
  refine gives_of (rs := [.tmp 4]) mixed Try.func24 rfl ok24 (by kernel_rfl) (by show 2 ≤ _; decide) rfl ?_
  simp (disch := first | omega | assumption | (simp only [tab_len, List.length_cons, List.length_append, List.length_set, List.length_nil, List.length_replicate, List.length_map, one_int, one_bool, one_slice, one_upd, one_lay, one_if, one_c, one_by8, one_row, one_sq, one_grp, nums_len, one_alg, one_num, one_boolF] <;> omega)) only [go_sem, ↓reduceIte, Nat.reduceEqDiff, Int.reduceAdd, Int.reduceSub]
  have h : (p : Int) - 2 = ((p - 2 : Nat) : Int) := by omega
  rw [h]
  refine callB_gives (fn_power _ n (p - 2) p hp hn (by omega)) ?_
  simp (disch := first | omega | assumption | (simp only [tab_len, List.length_cons, List.length_append, List.length_set, List.length_nil, List.length_replicate, List.length_map, one_int, one_bool, one_slice, one_upd, one_lay, one_if, one_c, one_by8, one_row, one_sq, one_grp, nums_len, one_alg, one_num, one_boolF] <;> omega)) only [go_sem, ↓reduceIte, Nat.reduceEqDiff, Int.reduceAdd, Int.reduceSub]
  exact up_plain rfl (fun _ => rfl) rfl
theorem sp_mod (κ : Mem) (p x : Nat) (hp : 2 ≤ p ∧ p ≤ 13) (hx : x ≤ 1000000) : Gives Try.prog 54 [i64 p, i64 x] κ (i64 (x % p : Nat)) := by
  have h1 : ((x % p : Nat) : Int) = (x : Int) % (p : Int) := by simp
  have h2 : x % p < p := Nat.mod_lt _ (by omega)
  have h3 : ((x : Int) % (p : Int) + p) % (p : Int) = (x : Int) % (p : Int) := by simp
  refine gives_of (rs := [.tmp 4]) mixed Try.func54 rfl ok54 (by kernel_rfl) (by show 2 ≤ _; decide) rfl ?_
  simp (disch := first | omega | assumption | (simp only [tab_len, List.length_cons, List.length_append, List.length_set, List.length_nil, List.length_replicate, List.length_map, one_int, one_bool, one_slice, one_upd, one_lay, one_if, one_c, one_by8, one_row, one_sq, one_grp, nums_len, one_alg, one_num, one_boolF] <;> omega)) only [go_sem, ↓reduceIte, Nat.reduceEqDiff, Int.reduceAdd, Int.reduceSub]
  simp (disch := first | omega | assumption | (simp only [tab_len, List.length_cons, List.length_append, List.length_set, List.length_nil, List.length_replicate, List.length_map, one_int, one_bool, one_slice, one_upd, one_lay, one_if, one_c, one_by8, one_row, one_sq, one_grp, nums_len, one_alg, one_num, one_boolF] <;> omega)) only [go_sem, ↓reduceIte, Nat.reduceEqDiff, Int.reduceAdd, Int.reduceSub, s_tmod, h3]
  refine up_plain ?_ (fun _ => rfl) rfl
  rw [h1]
/-- The first k from 1 on with product 1. -/
def firstInv (p x : Nat) : Nat := ((List.range p).find? fun k => k * x % p == 1).getD 0
theorem sp_inverseP (κ : Mem) (p x : Nat) (hp : 2 ≤ p ∧ p ≤ 13) (hx : x < p) : Gives Try.prog 39 [i64 p, i64 x] κ (i64 (firstInv p x)) := by
  refine gives_of (rs := [.tmp 4]) mixed Try.func39 rfl ok39 (by kernel_rfl) (by show 2 ≤ _; decide) rfl ?_
  simp (disch := first | omega | assumption | (simp only [tab_len, List.length_cons, List.length_append, List.length_set, List.length_nil, List.length_replicate, List.length_map, one_int, one_bool, one_slice, one_upd, one_lay, one_if, one_c, one_by8, one_row, one_sq, one_grp, nums_len, one_alg, one_num, one_boolF] <;> omega)) only [go_sem, ↓reduceIte, Nat.reduceEqDiff, Int.reduceAdd, Int.reduceSub]
  refine vc_up p 1 (fun k env M ψ => ψ = none' ∧ env 5 = .int .i64 k ∧ ∀ j < k, ¬ j * x % p = 1) (by omega) ?_ ?_
  · refine ⟨rfl, ?_, fun j hj => by obtain rfl : j = 0 := by omega
                                    simp⟩
    simp (disch := first | omega | assumption | (simp only [tab_len, List.length_cons, List.length_append, List.length_set, List.length_nil, List.length_replicate, List.length_map, one_int, one_bool, one_slice, one_upd, one_lay, one_if, one_c, one_by8, one_row, one_sq, one_grp, nums_len, one_alg, one_num, one_boolF] <;> omega)) only [go_sem, ↓reduceIte, Nat.reduceEqDiff, Int.reduceAdd, Int.reduceSub]
  · rintro k env M ψ hk hf - ap ⟨rfl, e5, hno⟩ K hK
    have e0 := hf 0 (by kernel_rfl)
    have e1 := hf 1 (by kernel_rfl)
    simp (disch := first | omega | assumption | (simp only [tab_len, List.length_cons, List.length_append, List.length_set, List.length_nil, List.length_replicate, List.length_map, one_int, one_bool, one_slice, one_upd, one_lay, one_if, one_c, one_by8, one_row, one_sq, one_grp, nums_len, one_alg, one_num, one_boolF] <;> omega)) only [go_sem, ↓reduceIte, Nat.reduceEqDiff, Int.reduceAdd, Int.reduceSub] at e0
    simp (disch := first | omega | assumption | (simp only [tab_len, List.length_cons, List.length_append, List.length_set, List.length_nil, List.length_replicate, List.length_map, one_int, one_bool, one_slice, one_upd, one_lay, one_if, one_c, one_by8, one_row, one_sq, one_grp, nums_len, one_alg, one_num, one_boolF] <;> omega)) only [go_sem, ↓reduceIte, Nat.reduceEqDiff, Int.reduceAdd, Int.reduceSub] at e1
    simp (disch := first | omega | assumption | (simp only [tab_len, List.length_cons, List.length_append, List.length_set, List.length_nil, List.length_replicate, List.length_map, one_int, one_bool, one_slice, one_upd, one_lay, one_if, one_c, one_by8, one_row, one_sq, one_grp, nums_len, one_alg, one_num, one_boolF] <;> omega)) only [go_sem, ↓reduceIte, Nat.reduceEqDiff, Int.reduceAdd, Int.reduceSub, e0, e5]
    refine ifB_dec (fun h => ?_) (fun h => ?_)
    · simp (disch := first | omega | assumption | (simp only [tab_len, List.length_cons, List.length_append, List.length_set, List.length_nil, List.length_replicate, List.length_map, one_int, one_bool, one_slice, one_upd, one_lay, one_if, one_c, one_by8, one_row, one_sq, one_grp, nums_len, one_alg, one_num, one_boolF] <;> omega)) only [go_sem, ↓reduceIte, Nat.reduceEqDiff, Int.reduceAdd, Int.reduceSub, e0, e1, e5]
      refine callB_gives (sp_mod _ p x hp (by omega)) ?_
      have hxm : x % p = x := Nat.mod_eq_of_lt hx
      rw [hxm]
      have h2 : 0 ≤ (k : Int) * (x : Int) ∧ (k : Int) * (x : Int) ≤ 169 := by
        have : k * x ≤ 13 * 13 := Nat.mul_le_mul (by omega) (by omega)
        have e : ((k * x : Nat) : Int) = (k : Int) * (x : Int) := by simp
        omega
      have h3 : ((k * x % p : Nat) : Int) = (k : Int) * (x : Int) % (p : Int) := by simp
      simp (disch := first | omega | assumption | (simp only [tab_len, List.length_cons, List.length_append, List.length_set, List.length_nil, List.length_replicate, List.length_map, one_int, one_bool, one_slice, one_upd, one_lay, one_if, one_c, one_by8, one_row, one_sq, one_grp, nums_len, one_alg, one_num, one_boolF] <;> omega)) only [go_sem, ↓reduceIte, Nat.reduceEqDiff, Int.reduceAdd, Int.reduceSub, e0, e5, s_tmod]
      refine ifB_dec (fun h4 => ?_) (fun h4 => ?_)
      · simp (disch := first | omega | assumption | (simp only [tab_len, List.length_cons, List.length_append, List.length_set, List.length_nil, List.length_replicate, List.length_map, one_int, one_bool, one_slice, one_upd, one_lay, one_if, one_c, one_by8, one_row, one_sq, one_grp, nums_len, one_alg, one_num, one_boolF] <;> omega)) only [go_sem, ↓reduceIte, Nat.reduceEqDiff, Int.reduceAdd, Int.reduceSub, e5]
        refine up_plain ?_ (fun _ => rfl) rfl
        have : (List.range p).find? (fun k => k * x % p == 1) = some k := by
          rw [List.find?_range_eq_some]
          exact ⟨by simp; omega, by simp; omega, fun j hj => by simpa using hno j hj⟩
        unfold firstInv; rw [this]; rfl
      · simp (disch := first | omega | assumption | (simp only [tab_len, List.length_cons, List.length_append, List.length_set, List.length_nil, List.length_replicate, List.length_map, one_int, one_bool, one_slice, one_upd, one_lay, one_if, one_c, one_by8, one_row, one_sq, one_grp, nums_len, one_alg, one_num, one_boolF] <;> omega)) only [go_sem, ↓reduceIte, Nat.reduceEqDiff, Int.reduceAdd, Int.reduceSub, e5]
        refine hK _ _ _ (by omega) (Up.here ⟨rfl, ?_, all_succ hno (by omega)⟩)
        simp (disch := first | omega | assumption | (simp only [tab_len, List.length_cons, List.length_append, List.length_set, List.length_nil, List.length_replicate, List.length_map, one_int, one_bool, one_slice, one_upd, one_lay, one_if, one_c, one_by8, one_row, one_sq, one_grp, nums_len, one_alg, one_num, one_boolF] <;> omega)) only [go_sem, ↓reduceIte, Nat.reduceEqDiff, Int.reduceAdd, Int.reduceSub]
    · simp (disch := first | omega | assumption | (simp only [tab_len, List.length_cons, List.length_append, List.length_set, List.length_nil, List.length_replicate, List.length_map, one_int, one_bool, one_slice, one_upd, one_lay, one_if, one_c, one_by8, one_row, one_sq, one_grp, nums_len, one_alg, one_num, one_boolF] <;> omega)) only [go_sem, ↓reduceIte, Nat.reduceEqDiff, Int.reduceAdd, Int.reduceSub]
      refine up_plain ?_ (fun _ => rfl) rfl
      have : (List.range p).find? (fun k => k * x % p == 1) = none := by
        rw [List.find?_range_eq_none]
        exact fun j hj => by simpa using hno j (by omega)
      unfold firstInv; rw [this]; rfl
theorem inv_same : ∀ p, p = 2 ∨ p = 3 ∨ p = 5 ∨ p = 7 ∨ p = 11 ∨ p = 13 → ∀ x < p, 0 < x → pw x p (p - 2) = firstInv p x := by
  rintro p (rfl | rfl | rfl | rfl | rfl | rfl)
  all_goals decide
end Go.Proofs.Ytbenllhoofoahaa

