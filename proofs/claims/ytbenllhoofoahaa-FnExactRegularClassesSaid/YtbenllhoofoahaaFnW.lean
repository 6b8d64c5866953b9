/- FnExactGroupPair: the walk. -/
import Derived.Test.YtbenllhoofoahaaFnV
namespace Go.Proofs.Ytbenllhoofoahaa
set_option linter.unusedSimpArgs false
set_option linter.unusedVariables false
set_option maxRecDepth 4000
open Go Go.Vc
theorem zP_pair : tab 484 zP = tab 484 (pairF ⟨⟨0, 0, fun _ _ _ => 0, fun _ => 0⟩, ⟨0, 0, fun _ _ _ => 0, fun _ => 0⟩, fun _ _ => 0⟩) := by kernel_rfl
theorem tup0 (a b : Value) : (#[a, b] : Array Value)[0]? = some a := rfl
theorem tup1 (a b : Value) : (#[a, b] : Array Value)[1]? = some b := rfl
theorem gpV_is (p : Int) (G : Grp) : ∃ x c, gpV p G = .tuple #[.agg (tab 484 (pairF x)).toArray, i64 c] := by
  unfold gpV
  by_cases h : code p G = 0
  · rw [if_pos h]
    by_cases h2 : G.n % p = 0
    · rw [if_pos h2, zP_pair]; exact ⟨_, _, rfl⟩
    · rw [if_neg h2]; exact ⟨_, _, rfl⟩
  · rw [if_neg h, zP_pair]; exact ⟨_, _, rfl⟩
theorem law_groupPair (κ : Mem) (p : Int) (G : Grp) : CallsX Try.prog 3 #[i64 p, .agg (tab 37 (grpF G)).toArray] none' κ (fun v M ψ => v = .bool true ∧ M = none') := by
  refine run_of (rs := [.tmp 4]) (args := [i64 p, .agg (tab 37 (grpF G)).toArray]) mixed Try.func3 rfl ok3 (by kernel_rfl) (by show 2 ≤ _; decide) rfl ?_
  obtain ⟨x, c, hx⟩ := gpV_is p G
  simp (disch := first | omega | assumption | (simp only [tab_len, List.length_cons, List.length_append, List.length_set, List.length_nil, List.length_replicate, List.length_map, one_int, one_bool, one_slice, one_upd, one_lay, one_if, one_c, one_by8, one_row, one_sq, one_grp, nums_len, one_alg, one_num, one_boolF, one_pair, one_zP] <;> omega) | fail) only [go_sem, eq_self, ↓reduceIte, Nat.reduceEqDiff, Int.reduceAdd, Int.reduceSub]
  refine anew_intro fun g g1 g2 g3 => ?_
  have g0 := g1
  try simp only [upd_none] at g0
  simp (disch := first | omega | assumption | (simp only [tab_len, List.length_cons, List.length_append, List.length_set, List.length_nil, List.length_replicate, List.length_map, one_int, one_bool, one_slice, one_upd, one_lay, one_if, one_c, one_by8, one_row, one_sq, one_grp, nums_len, one_alg, one_num, one_boolF, one_pair, one_zP] <;> omega) | fail) only [go_sem, eq_self, ↓reduceIte, Nat.reduceEqDiff, Int.reduceAdd, Int.reduceSub]
  refine callB_gives (toGroup G _) ?_
  simp (disch := first | omega | assumption | (simp only [tab_len, List.length_cons, List.length_append, List.length_set, List.length_nil, List.length_replicate, List.length_map, one_int, one_bool, one_slice, one_upd, one_lay, one_if, one_c, one_by8, one_row, one_sq, one_grp, nums_len, one_alg, one_num, one_boolF, one_pair, one_zP] <;> omega) | fail) only [go_sem, eq_self, ↓reduceIte, Nat.reduceEqDiff, Int.reduceAdd, Int.reduceSub]
  refine callB_val (sp_groupPair _ p G) fun ψ1 hψ1 => ?_
  simp (disch := first | omega | assumption | (simp only [tab_len, List.length_cons, List.length_append, List.length_set, List.length_nil, List.length_replicate, List.length_map, one_int, one_bool, one_slice, one_upd, one_lay, one_if, one_c, one_by8, one_row, one_sq, one_grp, nums_len, one_alg, one_num, one_boolF, one_pair, one_zP] <;> omega) | fail) only [go_sem, eq_self, ↓reduceIte, Nat.reduceEqDiff, Int.reduceAdd, Int.reduceSub, hx, tup0, tup1]
  refine anew_intro fun q q1 q2 q3 => ?_
  have q0 := q1
  try simp only [upd_none] at q0
  simp (disch := first | omega | assumption | (simp only [tab_len, List.length_cons, List.length_append, List.length_set, List.length_nil, List.length_replicate, List.length_map, one_int, one_bool, one_slice, one_upd, one_lay, one_if, one_c, one_by8, one_row, one_sq, one_grp, nums_len, one_alg, one_num, one_boolF, one_pair, one_zP] <;> omega) | fail) only [go_sem, eq_self, ↓reduceIte, Nat.reduceEqDiff, Int.reduceAdd, Int.reduceSub]
  refine callB_gives (toGroup G _) ?_
  simp (disch := first | omega | assumption | (simp only [tab_len, List.length_cons, List.length_append, List.length_set, List.length_nil, List.length_replicate, List.length_map, one_int, one_bool, one_slice, one_upd, one_lay, one_if, one_c, one_by8, one_row, one_sq, one_grp, nums_len, one_alg, one_num, one_boolF, one_pair, one_zP] <;> omega) | fail) only [go_sem, eq_self, ↓reduceIte, Nat.reduceEqDiff, Int.reduceAdd, Int.reduceSub]
  refine callB_val (fn_groupPair _ p G) fun ψ2 hψ2 => ?_
  simp (disch := first | omega | assumption | (simp only [tab_len, List.length_cons, List.length_append, List.length_set, List.length_nil, List.length_replicate, List.length_map, one_int, one_bool, one_slice, one_upd, one_lay, one_if, one_c, one_by8, one_row, one_sq, one_grp, nums_len, one_alg, one_num, one_boolF, one_pair, one_zP] <;> omega) | fail) only [go_sem, eq_self, ↓reduceIte, Nat.reduceEqDiff, Int.reduceAdd, Int.reduceSub, hx, tup0, tup1]
  refine anew_intro fun r r1 r2 r3 => ?_
  have r0 := r1
  try simp only [upd_none] at r0
  simp (disch := first | omega | assumption | (simp only [tab_len, List.length_cons, List.length_append, List.length_set, List.length_nil, List.length_replicate, List.length_map, one_int, one_bool, one_slice, one_upd, one_lay, one_if, one_c, one_by8, one_row, one_sq, one_grp, nums_len, one_alg, one_num, one_boolF, one_pair, one_zP] <;> omega) | fail) only [go_sem, eq_self, ↓reduceIte, Nat.reduceEqDiff, Int.reduceAdd, Int.reduceSub]
  refine callB_gives (eq_pair _ x) ?_
  simp (disch := first | omega | assumption | (simp only [tab_len, List.length_cons, List.length_append, List.length_set, List.length_nil, List.length_replicate, List.length_map, one_int, one_bool, one_slice, one_upd, one_lay, one_if, one_c, one_by8, one_row, one_sq, one_grp, nums_len, one_alg, one_num, one_boolF, one_pair, one_zP] <;> omega) | fail) only [go_sem, eq_self, ↓reduceIte, Nat.reduceEqDiff, Int.reduceAdd, Int.reduceSub]
  exact Up.drop (Le.none _) rfl
end Go.Proofs.Ytbenllhoofoahaa

