/- Cocycles, both ways. -/
import Derived.Test.YtbenllhoofoahaaFnZ
namespace Go.Proofs.Ytbenllhoofoahaa
set_option linter.unusedSimpArgs false
set_option linter.unusedVariables false
set_option maxRecDepth 4000
open Go Go.Vc
def CocAt (L : List (List Int)) (n : Nat) (G : Grp) (p : Int) (i j : Nat) : Prop := ent L i j ≠ 0 ∧ ∀ k < n, ent L i j * ent L (mul G i j) k % p = ent L j k * ent L i (mul G j k) % p
def Coc (L : List (List Int)) (n : Nat) (G : Grp) (p : Int) : Prop := (∀ i < n, ∀ j < n, CocAt L n G p i j) ∧ ent L 0 0 = 1
theorem mul_bd {x y p : Int} (hp : 2 ≤ p ∧ p ≤ 13) (hx : 0 ≤ x ∧ x ≤ p - 1) (hy : 0 ≤ y ∧ y ≤ p - 1) : 0 ≤ x * y ∧ x * y ≤ 144 := by
  have h1 : 0 ≤ x * y := Int.mul_nonneg hx.1 hy.1
  have h2 : x * y ≤ 12 * 12 := Int.mul_le_mul (by omega) (by omega) hy.1 (by omega)
  omega
theorem fn_cocycle (κ : Mem) (p : Int) (G : Grp) (n : Nat) (g : Nat) (v : Value) (L : List (List Int)) (hp : 2 ≤ p ∧ p ≤ 13) (hn : G.n = n) (hg : IsG G n) (hb : Has κ g 35 (tab 37 (grpF G))) (hv : Tbl κ v L) (hS : Sq L n p) :
    Gives Try.prog 63 [ptr g, i64 p, v] κ (.bool (dec (Coc L n G p))) := by
  have h6 := hg.1
  obtain ⟨b, o, c, T, t, cs, B, O, C, TT, TS, CS, rfl, hA, hcs, hB, hCS⟩ := sq_open hv hS (by omega)
  have hbd := fun i j (hi : i < n) (hj : j < n) => (hS.2 i hi).2 j hj
  have hm := fun i j (hi : i < n) (hj : j < n) => mul_lt hg hi hj
  have hpz : ¬ p = 0 := by omega
  refine gives_of (rs := [.tmp 6]) mixed Try.func63 rfl ok63 (by kernel_rfl) (by show 3 ≤ _; decide) rfl ?_
  simp (disch := first | omega | assumption | (simp only [tab_len, List.length_cons, List.length_append, List.length_set, List.length_nil, List.length_replicate, List.length_map, one_int, one_bool, one_slice, one_upd, one_lay, one_if, one_c, one_by8, one_row, one_sq, one_grp, nums_len, one_alg, one_num, one_boolF, one_pair, one_zP] <;> omega) | fail) only [go_sem, eq_self, ↓reduceIte, Nat.reduceEqDiff, Int.reduceAdd, Int.reduceSub]
  refine callB_gives (fn_n G _ g 35 (by rw [all_none]; exact hb)) ?_
  simp (disch := first | omega | assumption | (simp only [tab_len, List.length_cons, List.length_append, List.length_set, List.length_nil, List.length_replicate, List.length_map, one_int, one_bool, one_slice, one_upd, one_lay, one_if, one_c, one_by8, one_row, one_sq, one_grp, nums_len, one_alg, one_num, one_boolF, one_pair, one_zP] <;> omega) | fail) only [go_sem, eq_self, ↓reduceIte, Nat.reduceEqDiff, Int.reduceAdd, Int.reduceSub, hn]
  refine vc_up n 0 (fun i env M ψ => none' = M ∧ none' = ψ ∧ env 14 = .int .i64 i ∧ ∀ i' < i, ∀ j < n, CocAt L n G p i' j) (by omega) ?_ ?_
  · refine ⟨rfl, rfl, ?_, fun j hj => by omega⟩
    simp (disch := first | omega | assumption | (simp only [tab_len, List.length_cons, List.length_append, List.length_set, List.length_nil, List.length_replicate, List.length_map, one_int, one_bool, one_slice, one_upd, one_lay, one_if, one_c, one_by8, one_row, one_sq, one_grp, nums_len, one_alg, one_num, one_boolF, one_pair, one_zP] <;> omega) | fail) only [go_sem, eq_self, ↓reduceIte, Nat.reduceEqDiff, Int.reduceAdd, Int.reduceSub]
  · rintro i env M ψ hi hf - ap ⟨rfl, rfl, e14, hok⟩ K hK
    have e0 := hf 0 (by kernel_rfl)
    have e1 := hf 1 (by kernel_rfl)
    have e2 := hf 2 (by kernel_rfl)
    have e13 := hf 13 (by kernel_rfl)
    simp (disch := first | omega | assumption | (simp only [tab_len, List.length_cons, List.length_append, List.length_set, List.length_nil, List.length_replicate, List.length_map, one_int, one_bool, one_slice, one_upd, one_lay, one_if, one_c, one_by8, one_row, one_sq, one_grp, nums_len, one_alg, one_num, one_boolF, one_pair, one_zP] <;> omega) | fail) only [go_sem, eq_self, ↓reduceIte, Nat.reduceEqDiff, Int.reduceAdd, Int.reduceSub] at e0
    simp (disch := first | omega | assumption | (simp only [tab_len, List.length_cons, List.length_append, List.length_set, List.length_nil, List.length_replicate, List.length_map, one_int, one_bool, one_slice, one_upd, one_lay, one_if, one_c, one_by8, one_row, one_sq, one_grp, nums_len, one_alg, one_num, one_boolF, one_pair, one_zP] <;> omega) | fail) only [go_sem, eq_self, ↓reduceIte, Nat.reduceEqDiff, Int.reduceAdd, Int.reduceSub] at e1
    simp (disch := first | omega | assumption | (simp only [tab_len, List.length_cons, List.length_append, List.length_set, List.length_nil, List.length_replicate, List.length_map, one_int, one_bool, one_slice, one_upd, one_lay, one_if, one_c, one_by8, one_row, one_sq, one_grp, nums_len, one_alg, one_num, one_boolF, one_pair, one_zP] <;> omega) | fail) only [go_sem, eq_self, ↓reduceIte, Nat.reduceEqDiff, Int.reduceAdd, Int.reduceSub] at e2
    simp (disch := first | omega | assumption | (simp only [tab_len, List.length_cons, List.length_append, List.length_set, List.length_nil, List.length_replicate, List.length_map, one_int, one_bool, one_slice, one_upd, one_lay, one_if, one_c, one_by8, one_row, one_sq, one_grp, nums_len, one_alg, one_num, one_boolF, one_pair, one_zP] <;> omega) | fail) only [go_sem, eq_self, ↓reduceIte, Nat.reduceEqDiff, Int.reduceAdd, Int.reduceSub] at e13
    simp (disch := first | omega | assumption | (simp only [tab_len, List.length_cons, List.length_append, List.length_set, List.length_nil, List.length_replicate, List.length_map, one_int, one_bool, one_slice, one_upd, one_lay, one_if, one_c, one_by8, one_row, one_sq, one_grp, nums_len, one_alg, one_num, one_boolF, one_pair, one_zP] <;> omega) | fail) only [go_sem, eq_self, ↓reduceIte, Nat.reduceEqDiff, Int.reduceAdd, Int.reduceSub, e13, e14]
    refine ifB_dec (fun h => ?_) (fun h => ?_)
    · simp (disch := first | omega | assumption | (simp only [tab_len, List.length_cons, List.length_append, List.length_set, List.length_nil, List.length_replicate, List.length_map, one_int, one_bool, one_slice, one_upd, one_lay, one_if, one_c, one_by8, one_row, one_sq, one_grp, nums_len, one_alg, one_num, one_boolF, one_pair, one_zP] <;> omega) | fail) only [go_sem, eq_self, ↓reduceIte, Nat.reduceEqDiff, Int.reduceAdd, Int.reduceSub, e0, e14]
      refine callB_gives (fn_n G _ g 35 (by rw [all_none]; exact hb)) ?_
      simp (disch := first | omega | assumption | (simp only [tab_len, List.length_cons, List.length_append, List.length_set, List.length_nil, List.length_replicate, List.length_map, one_int, one_bool, one_slice, one_upd, one_lay, one_if, one_c, one_by8, one_row, one_sq, one_grp, nums_len, one_alg, one_num, one_boolF, one_pair, one_zP] <;> omega) | fail) only [go_sem, eq_self, ↓reduceIte, Nat.reduceEqDiff, Int.reduceAdd, Int.reduceSub, hn]
      refine vc_up n 0 (fun j env M ψ => none' = M ∧ none' = ψ ∧ env 19 = .int .i64 j ∧ ∀ j' < j, CocAt L n G p i j') (by omega) ?_ ?_
      · refine ⟨rfl, rfl, ?_, fun j hj => by omega⟩
        simp (disch := first | omega | assumption | (simp only [tab_len, List.length_cons, List.length_append, List.length_set, List.length_nil, List.length_replicate, List.length_map, one_int, one_bool, one_slice, one_upd, one_lay, one_if, one_c, one_by8, one_row, one_sq, one_grp, nums_len, one_alg, one_num, one_boolF, one_pair, one_zP] <;> omega) | fail) only [go_sem, eq_self, ↓reduceIte, Nat.reduceEqDiff, Int.reduceAdd, Int.reduceSub]
      · rintro j env2 M ψ hj hf2 - ap2 ⟨rfl, rfl, e19, hok2⟩ K2 hK2
        have u0 := hf2 0 (by kernel_rfl)
        have u1 := hf2 1 (by kernel_rfl)
        have u2 := hf2 2 (by kernel_rfl)
        have u7 := hf2 7 (by kernel_rfl)
        have u14 := hf2 14 (by kernel_rfl)
        have u18 := hf2 18 (by kernel_rfl)
        simp (disch := first | omega | assumption | (simp only [tab_len, List.length_cons, List.length_append, List.length_set, List.length_nil, List.length_replicate, List.length_map, one_int, one_bool, one_slice, one_upd, one_lay, one_if, one_c, one_by8, one_row, one_sq, one_grp, nums_len, one_alg, one_num, one_boolF, one_pair, one_zP] <;> omega) | fail) only [go_sem, eq_self, ↓reduceIte, Nat.reduceEqDiff, Int.reduceAdd, Int.reduceSub, e0, e1, e2, e14] at u0
        simp (disch := first | omega | assumption | (simp only [tab_len, List.length_cons, List.length_append, List.length_set, List.length_nil, List.length_replicate, List.length_map, one_int, one_bool, one_slice, one_upd, one_lay, one_if, one_c, one_by8, one_row, one_sq, one_grp, nums_len, one_alg, one_num, one_boolF, one_pair, one_zP] <;> omega) | fail) only [go_sem, eq_self, ↓reduceIte, Nat.reduceEqDiff, Int.reduceAdd, Int.reduceSub, e0, e1, e2, e14] at u1
        simp (disch := first | omega | assumption | (simp only [tab_len, List.length_cons, List.length_append, List.length_set, List.length_nil, List.length_replicate, List.length_map, one_int, one_bool, one_slice, one_upd, one_lay, one_if, one_c, one_by8, one_row, one_sq, one_grp, nums_len, one_alg, one_num, one_boolF, one_pair, one_zP] <;> omega) | fail) only [go_sem, eq_self, ↓reduceIte, Nat.reduceEqDiff, Int.reduceAdd, Int.reduceSub, e0, e1, e2, e14] at u2
        simp (disch := first | omega | assumption | (simp only [tab_len, List.length_cons, List.length_append, List.length_set, List.length_nil, List.length_replicate, List.length_map, one_int, one_bool, one_slice, one_upd, one_lay, one_if, one_c, one_by8, one_row, one_sq, one_grp, nums_len, one_alg, one_num, one_boolF, one_pair, one_zP] <;> omega) | fail) only [go_sem, eq_self, ↓reduceIte, Nat.reduceEqDiff, Int.reduceAdd, Int.reduceSub, e0, e1, e2, e14] at u7
        simp (disch := first | omega | assumption | (simp only [tab_len, List.length_cons, List.length_append, List.length_set, List.length_nil, List.length_replicate, List.length_map, one_int, one_bool, one_slice, one_upd, one_lay, one_if, one_c, one_by8, one_row, one_sq, one_grp, nums_len, one_alg, one_num, one_boolF, one_pair, one_zP] <;> omega) | fail) only [go_sem, eq_self, ↓reduceIte, Nat.reduceEqDiff, Int.reduceAdd, Int.reduceSub, e0, e1, e2, e14] at u14
        simp (disch := first | omega | assumption | (simp only [tab_len, List.length_cons, List.length_append, List.length_set, List.length_nil, List.length_replicate, List.length_map, one_int, one_bool, one_slice, one_upd, one_lay, one_if, one_c, one_by8, one_row, one_sq, one_grp, nums_len, one_alg, one_num, one_boolF, one_pair, one_zP] <;> omega) | fail) only [go_sem, eq_self, ↓reduceIte, Nat.reduceEqDiff, Int.reduceAdd, Int.reduceSub, e0, e1, e2, e14] at u18
        simp (disch := first | omega | assumption | (simp only [tab_len, List.length_cons, List.length_append, List.length_set, List.length_nil, List.length_replicate, List.length_map, one_int, one_bool, one_slice, one_upd, one_lay, one_if, one_c, one_by8, one_row, one_sq, one_grp, nums_len, one_alg, one_num, one_boolF, one_pair, one_zP] <;> omega) | fail) only [go_sem, eq_self, ↓reduceIte, Nat.reduceEqDiff, Int.reduceAdd, Int.reduceSub, u18, e19]
        refine ifB_dec (fun h2 => ?_) (fun h2 => ?_)
        · simp (disch := first | omega | assumption | (simp only [tab_len, List.length_cons, List.length_append, List.length_set, List.length_nil, List.length_replicate, List.length_map, one_int, one_bool, one_slice, one_upd, one_lay, one_if, one_c, one_by8, one_row, one_sq, one_grp, nums_len, one_alg, one_num, one_boolF, one_pair, one_zP] <;> omega) | fail) only [go_sem, eq_self, ↓reduceIte, Nat.reduceEqDiff, Int.reduceAdd, Int.reduceSub, u0, e19]
          refine callB_gives (fn_n G _ g 35 (by rw [all_none]; exact hb)) ?_
          simp (disch := first | omega | assumption | (simp only [tab_len, List.length_cons, List.length_append, List.length_set, List.length_nil, List.length_replicate, List.length_map, one_int, one_bool, one_slice, one_upd, one_lay, one_if, one_c, one_by8, one_row, one_sq, one_grp, nums_len, one_alg, one_num, one_boolF, one_pair, one_zP] <;> omega) | fail) only [go_sem, eq_self, ↓reduceIte, Nat.reduceEqDiff, Int.reduceAdd, Int.reduceSub, hn]
          refine vc_up n 0 (fun k env M ψ => none' = M ∧ none' = ψ ∧ env 24 = .int .i64 k ∧ (0 < k → ent L i j ≠ 0) ∧ ∀ k' < k, ent L i j * ent L (mul G i j) k' % p = ent L j k' * ent L i (mul G j k') % p) (by omega) ?_ ?_
          · refine ⟨rfl, rfl, ?_, fun h => by omega, fun j hj => by omega⟩
            simp (disch := first | omega | assumption | (simp only [tab_len, List.length_cons, List.length_append, List.length_set, List.length_nil, List.length_replicate, List.length_map, one_int, one_bool, one_slice, one_upd, one_lay, one_if, one_c, one_by8, one_row, one_sq, one_grp, nums_len, one_alg, one_num, one_boolF, one_pair, one_zP] <;> omega) | fail) only [go_sem, eq_self, ↓reduceIte, Nat.reduceEqDiff, Int.reduceAdd, Int.reduceSub]
          · rintro k env3 M ψ hk hf3 - ap3 ⟨rfl, rfl, e24, hz, hok3⟩ K3 hK3
            have v0 := hf3 0 (by kernel_rfl)
            have v1 := hf3 1 (by kernel_rfl)
            have v2 := hf3 2 (by kernel_rfl)
            have v7 := hf3 7 (by kernel_rfl)
            have v8 := hf3 8 (by kernel_rfl)
            have v14 := hf3 14 (by kernel_rfl)
            have v19 := hf3 19 (by kernel_rfl)
            have v23 := hf3 23 (by kernel_rfl)
            simp (disch := first | omega | assumption | (simp only [tab_len, List.length_cons, List.length_append, List.length_set, List.length_nil, List.length_replicate, List.length_map, one_int, one_bool, one_slice, one_upd, one_lay, one_if, one_c, one_by8, one_row, one_sq, one_grp, nums_len, one_alg, one_num, one_boolF, one_pair, one_zP] <;> omega) | fail) only [go_sem, eq_self, ↓reduceIte, Nat.reduceEqDiff, Int.reduceAdd, Int.reduceSub, u0, u1, u2, u7, u14, e19] at v0
            simp (disch := first | omega | assumption | (simp only [tab_len, List.length_cons, List.length_append, List.length_set, List.length_nil, List.length_replicate, List.length_map, one_int, one_bool, one_slice, one_upd, one_lay, one_if, one_c, one_by8, one_row, one_sq, one_grp, nums_len, one_alg, one_num, one_boolF, one_pair, one_zP] <;> omega) | fail) only [go_sem, eq_self, ↓reduceIte, Nat.reduceEqDiff, Int.reduceAdd, Int.reduceSub, u0, u1, u2, u7, u14, e19] at v1
            simp (disch := first | omega | assumption | (simp only [tab_len, List.length_cons, List.length_append, List.length_set, List.length_nil, List.length_replicate, List.length_map, one_int, one_bool, one_slice, one_upd, one_lay, one_if, one_c, one_by8, one_row, one_sq, one_grp, nums_len, one_alg, one_num, one_boolF, one_pair, one_zP] <;> omega) | fail) only [go_sem, eq_self, ↓reduceIte, Nat.reduceEqDiff, Int.reduceAdd, Int.reduceSub, u0, u1, u2, u7, u14, e19] at v2
            simp (disch := first | omega | assumption | (simp only [tab_len, List.length_cons, List.length_append, List.length_set, List.length_nil, List.length_replicate, List.length_map, one_int, one_bool, one_slice, one_upd, one_lay, one_if, one_c, one_by8, one_row, one_sq, one_grp, nums_len, one_alg, one_num, one_boolF, one_pair, one_zP] <;> omega) | fail) only [go_sem, eq_self, ↓reduceIte, Nat.reduceEqDiff, Int.reduceAdd, Int.reduceSub, u0, u1, u2, u7, u14, e19] at v7
            simp (disch := first | omega | assumption | (simp only [tab_len, List.length_cons, List.length_append, List.length_set, List.length_nil, List.length_replicate, List.length_map, one_int, one_bool, one_slice, one_upd, one_lay, one_if, one_c, one_by8, one_row, one_sq, one_grp, nums_len, one_alg, one_num, one_boolF, one_pair, one_zP] <;> omega) | fail) only [go_sem, eq_self, ↓reduceIte, Nat.reduceEqDiff, Int.reduceAdd, Int.reduceSub, u0, u1, u2, u7, u14, e19] at v8
            simp (disch := first | omega | assumption | (simp only [tab_len, List.length_cons, List.length_append, List.length_set, List.length_nil, List.length_replicate, List.length_map, one_int, one_bool, one_slice, one_upd, one_lay, one_if, one_c, one_by8, one_row, one_sq, one_grp, nums_len, one_alg, one_num, one_boolF, one_pair, one_zP] <;> omega) | fail) only [go_sem, eq_self, ↓reduceIte, Nat.reduceEqDiff, Int.reduceAdd, Int.reduceSub, u0, u1, u2, u7, u14, e19] at v14
            simp (disch := first | omega | assumption | (simp only [tab_len, List.length_cons, List.length_append, List.length_set, List.length_nil, List.length_replicate, List.length_map, one_int, one_bool, one_slice, one_upd, one_lay, one_if, one_c, one_by8, one_row, one_sq, one_grp, nums_len, one_alg, one_num, one_boolF, one_pair, one_zP] <;> omega) | fail) only [go_sem, eq_self, ↓reduceIte, Nat.reduceEqDiff, Int.reduceAdd, Int.reduceSub, u0, u1, u2, u7, u14, e19] at v19
            simp (disch := first | omega | assumption | (simp only [tab_len, List.length_cons, List.length_append, List.length_set, List.length_nil, List.length_replicate, List.length_map, one_int, one_bool, one_slice, one_upd, one_lay, one_if, one_c, one_by8, one_row, one_sq, one_grp, nums_len, one_alg, one_num, one_boolF, one_pair, one_zP] <;> omega) | fail) only [go_sem, eq_self, ↓reduceIte, Nat.reduceEqDiff, Int.reduceAdd, Int.reduceSub, u0, u1, u2, u7, u14, e19] at v23
            simp (disch := first | omega | assumption | (simp only [tab_len, List.length_cons, List.length_append, List.length_set, List.length_nil, List.length_replicate, List.length_map, one_int, one_bool, one_slice, one_upd, one_lay, one_if, one_c, one_by8, one_row, one_sq, one_grp, nums_len, one_alg, one_num, one_boolF, one_pair, one_zP] <;> omega) | fail) only [go_sem, eq_self, ↓reduceIte, Nat.reduceEqDiff, Int.reduceAdd, Int.reduceSub, v23, e24]
            refine ifB_dec (fun h3 => ?_) (fun h3 => ?_)
            · have m1 := hm i j (by omega) (by omega)
              have m2 := hm j k (by omega) (by omega)
              have d1 := mul_bd hp (hbd i j (by omega) (by omega)) (hbd (mul G i j) k m1 (by omega))
              have d2 := mul_bd hp (hbd j k (by omega) (by omega)) (hbd i (mul G j k) (by omega) m2)
              have ht1 : ((G.T i j).toNat : Int) = (mul G i j : Nat) := rfl
              have ht2 : ((G.T j k).toNat : Int) = (mul G j k : Nat) := rfl
              simp (disch := first | omega | assumption | (simp only [tab_len, List.length_cons, List.length_append, List.length_set, List.length_nil, List.length_replicate, List.length_map, one_int, one_bool, one_slice, one_upd, one_lay, one_if, one_c, one_by8, one_row, one_sq, one_grp, nums_len, one_alg, one_num, one_boolF, one_pair, one_zP] <;> omega) | fail) only [go_sem, eq_self, ↓reduceIte, Nat.reduceEqDiff, Int.reduceAdd, Int.reduceSub, e24]
              refine run_drawn [(0, []), (1, []), (2, []), (3, []), (4, []), (5, []), (6, []), (7, []), (8, []), (9, []), (10, []), (14, []), (18, []), (11, []), (12, []), (13, []), (15, []), (16, []), (17, []), (19, []), (20, [])] (by kernel_rfl) ?_
              simp (disch := first | omega | assumption | (simp only [tab_len, List.length_cons, List.length_append, List.length_set, List.length_nil, List.length_replicate, List.length_map, one_int, one_bool, one_slice, one_upd, one_lay, one_if, one_c, one_by8, one_row, one_sq, one_grp, nums_len, one_alg, one_num, one_boolF, one_pair, one_zP] <;> omega) | fail) only [go_sem, eq_self, ↓reduceIte, Nat.reduceEqDiff, Int.reduceAdd, Int.reduceSub, v0, v1, v2, v7, v8, hA, hcs, hB, hCS]
              refine callB0_gives (fn_times G _ g 35 (by rw [all_none]; exact hb) i j (by omega) (by omega)) ?_
              simp (disch := first | omega | assumption | (simp only [tab_len, List.length_cons, List.length_append, List.length_set, List.length_nil, List.length_replicate, List.length_map, one_int, one_bool, one_slice, one_upd, one_lay, one_if, one_c, one_by8, one_row, one_sq, one_grp, nums_len, one_alg, one_num, one_boolF, one_pair, one_zP] <;> omega) | fail) only [go_sem, eq_self, ↓reduceIte, Nat.reduceEqDiff, Int.reduceAdd, Int.reduceSub, ht1, v0, v1, v2, v7, v8, hA, hcs, hB, hCS, s_tmod]
              refine run_drawn [(0, []), (1, []), (2, []), (3, []), (4, []), (5, []), (6, []), (7, []), (8, []), (9, []), (10, []), (11, []), (12, []), (13, []), (18, []), (14, []), (15, []), (16, []), (17, []), (19, []), (20, [])] (by kernel_rfl) ?_
              simp (disch := first | omega | assumption | (simp only [tab_len, List.length_cons, List.length_append, List.length_set, List.length_nil, List.length_replicate, List.length_map, one_int, one_bool, one_slice, one_upd, one_lay, one_if, one_c, one_by8, one_row, one_sq, one_grp, nums_len, one_alg, one_num, one_boolF, one_pair, one_zP] <;> omega) | fail) only [go_sem, eq_self, ↓reduceIte, Nat.reduceEqDiff, Int.reduceAdd, Int.reduceSub, v0, v1, v2, v7, v8, hA, hcs, hB, hCS]
              refine callB0_gives (fn_times G _ g 35 (by rw [all_none]; exact hb) j k (by omega) (by omega)) ?_
              simp (disch := first | omega | assumption | (simp only [tab_len, List.length_cons, List.length_append, List.length_set, List.length_nil, List.length_replicate, List.length_map, one_int, one_bool, one_slice, one_upd, one_lay, one_if, one_c, one_by8, one_row, one_sq, one_grp, nums_len, one_alg, one_num, one_boolF, one_pair, one_zP] <;> omega) | fail) only [go_sem, eq_self, ↓reduceIte, Nat.reduceEqDiff, Int.reduceAdd, Int.reduceSub, ht2, v0, v1, v2, v7, v8, hA, hcs, hB, hCS, s_tmod]
              by_cases h0 : ent L i j = 0
              · simp (disch := first | omega | assumption | (simp only [tab_len, List.length_cons, List.length_append, List.length_set, List.length_nil, List.length_replicate, List.length_map, one_int, one_bool, one_slice, one_upd, one_lay, one_if, one_c, one_by8, one_row, one_sq, one_grp, nums_len, one_alg, one_num, one_boolF, one_pair, one_zP] <;> omega) | fail) only [go_sem, eq_self, ↓reduceIte, Nat.reduceEqDiff, Int.reduceAdd, Int.reduceSub, h0]
                refine up_plain ?_ (fun _ => rfl) rfl
                rw [dec_false (p := Coc L n G p) fun h => (h.1 i (by omega) j (by omega)).1 h0]
              · simp (disch := first | omega | assumption | (simp only [tab_len, List.length_cons, List.length_append, List.length_set, List.length_nil, List.length_replicate, List.length_map, one_int, one_bool, one_slice, one_upd, one_lay, one_if, one_c, one_by8, one_row, one_sq, one_grp, nums_len, one_alg, one_num, one_boolF, one_pair, one_zP] <;> omega) | fail) only [go_sem, eq_self, ↓reduceIte, Nat.reduceEqDiff, Int.reduceAdd, Int.reduceSub, h0]
                refine ifB_ndec (fun h4 => ?_) (fun h4 => ?_)
                · simp (disch := first | omega | assumption | (simp only [tab_len, List.length_cons, List.length_append, List.length_set, List.length_nil, List.length_replicate, List.length_map, one_int, one_bool, one_slice, one_upd, one_lay, one_if, one_c, one_by8, one_row, one_sq, one_grp, nums_len, one_alg, one_num, one_boolF, one_pair, one_zP] <;> omega) | fail) only [go_sem, eq_self, ↓reduceIte, Nat.reduceEqDiff, Int.reduceAdd, Int.reduceSub]
                  refine up_plain ?_ (fun _ => rfl) rfl
                  rw [dec_false (p := Coc L n G p) fun h => h4 ((h.1 i (by omega) j (by omega)).2 k (by omega))]
                · simp (disch := first | omega | assumption | (simp only [tab_len, List.length_cons, List.length_append, List.length_set, List.length_nil, List.length_replicate, List.length_map, one_int, one_bool, one_slice, one_upd, one_lay, one_if, one_c, one_by8, one_row, one_sq, one_grp, nums_len, one_alg, one_num, one_boolF, one_pair, one_zP] <;> omega) | fail) only [go_sem, eq_self, ↓reduceIte, Nat.reduceEqDiff, Int.reduceAdd, Int.reduceSub, e24]
                  refine hK3 _ _ _ (by omega) (Up.here ⟨rfl, rfl, ?_, fun _ => h0, all_succ hok3 h4⟩)
                  simp (disch := first | omega | assumption | (simp only [tab_len, List.length_cons, List.length_append, List.length_set, List.length_nil, List.length_replicate, List.length_map, one_int, one_bool, one_slice, one_upd, one_lay, one_if, one_c, one_by8, one_row, one_sq, one_grp, nums_len, one_alg, one_num, one_boolF, one_pair, one_zP] <;> omega) | fail) only [go_sem, eq_self, ↓reduceIte, Nat.reduceEqDiff, Int.reduceAdd, Int.reduceSub]
            · have : k = n := by omega
              subst this
              simp (disch := first | omega | assumption | (simp only [tab_len, List.length_cons, List.length_append, List.length_set, List.length_nil, List.length_replicate, List.length_map, one_int, one_bool, one_slice, one_upd, one_lay, one_if, one_c, one_by8, one_row, one_sq, one_grp, nums_len, one_alg, one_num, one_boolF, one_pair, one_zP] <;> omega) | fail) only [go_sem, eq_self, ↓reduceIte, Nat.reduceEqDiff, Int.reduceAdd, Int.reduceSub, v19]
              refine hK2 _ _ _ (by omega) (Up.here ⟨rfl, rfl, ?_, all_succ hok2 ⟨hz (by omega), hok3⟩⟩)
              simp (disch := first | omega | assumption | (simp only [tab_len, List.length_cons, List.length_append, List.length_set, List.length_nil, List.length_replicate, List.length_map, one_int, one_bool, one_slice, one_upd, one_lay, one_if, one_c, one_by8, one_row, one_sq, one_grp, nums_len, one_alg, one_num, one_boolF, one_pair, one_zP] <;> omega) | fail) only [go_sem, eq_self, ↓reduceIte, Nat.reduceEqDiff, Int.reduceAdd, Int.reduceSub]
        · have : j = n := by omega
          subst this
          simp (disch := first | omega | assumption | (simp only [tab_len, List.length_cons, List.length_append, List.length_set, List.length_nil, List.length_replicate, List.length_map, one_int, one_bool, one_slice, one_upd, one_lay, one_if, one_c, one_by8, one_row, one_sq, one_grp, nums_len, one_alg, one_num, one_boolF, one_pair, one_zP] <;> omega) | fail) only [go_sem, eq_self, ↓reduceIte, Nat.reduceEqDiff, Int.reduceAdd, Int.reduceSub, u14]
          refine hK _ _ _ (by omega) (Up.here ⟨rfl, rfl, ?_, all_succ hok hok2⟩)
          simp (disch := first | omega | assumption | (simp only [tab_len, List.length_cons, List.length_append, List.length_set, List.length_nil, List.length_replicate, List.length_map, one_int, one_bool, one_slice, one_upd, one_lay, one_if, one_c, one_by8, one_row, one_sq, one_grp, nums_len, one_alg, one_num, one_boolF, one_pair, one_zP] <;> omega) | fail) only [go_sem, eq_self, ↓reduceIte, Nat.reduceEqDiff, Int.reduceAdd, Int.reduceSub]
    · have : i = n := by omega
      subst this
      have q1 := hcs 0 (by omega)
      have q2 := hB 0 (by omega)
      have q3 := hCS 0 0 (by omega) (by omega)
      simp only [Nat.add_zero] at q1 q3
      simp (disch := first | omega | assumption | (simp only [tab_len, List.length_cons, List.length_append, List.length_set, List.length_nil, List.length_replicate, List.length_map, one_int, one_bool, one_slice, one_upd, one_lay, one_if, one_c, one_by8, one_row, one_sq, one_grp, nums_len, one_alg, one_num, one_boolF, one_pair, one_zP] <;> omega) | fail) only [go_sem, eq_self, ↓reduceIte, Nat.reduceEqDiff, Int.reduceAdd, Int.reduceSub, e2, hA, q1, q2, q3]
      refine up_plain ?_ (fun _ => rfl) rfl
      by_cases h1 : ent L 0 0 = 1
      · rw [dec_true (p := Coc L i G p) ⟨hok, h1⟩]; simp [h1]
      · rw [dec_false (p := Coc L i G p) fun h => h1 h.2]; simp [h1]
theorem sp_cocycle (κ : Mem) (p : Int) (G : Grp) (n : Nat) (v : Value) (L : List (List Int)) (hp : 2 ≤ p ∧ p ≤ 13) (hn : G.n = n) (hg : IsG G n) (hv : Tbl κ v L) (hS : Sq L n p) :
    Gives Try.prog 49 [i64 p, .agg (tab 37 (grpF G)).toArray, v] κ (.bool (dec (Coc L n G p))) := by
  have h6 := hg.1
  obtain ⟨b, o, c, T, t, cs, B, O, C, TT, TS, CS, rfl, hA, hcs, hB, hCS⟩ := sq_open hv hS (by omega)
  have hbd := fun i j (hi : i < n) (hj : j < n) => (hS.2 i hi).2 j hj
  have hm := fun i j (hi : i < n) (hj : j < n) => mul_lt hg hi hj
  have hpz : ¬ p = 0 := by omega
  refine gives_of (rs := [.tmp 6]) mixed Try.func49 rfl ok49 (by kernel_rfl) (by show 3 ≤ _; decide) rfl ?_
  simp (disch := first | omega | assumption | (simp only [tab_len, List.length_cons, List.length_append, List.length_set, List.length_nil, List.length_replicate, List.length_map, one_int, one_bool, one_slice, one_upd, one_lay, one_if, one_c, one_by8, one_row, one_sq, one_grp, nums_len, one_alg, one_num, one_boolF, one_pair, one_zP] <;> omega) | fail) only [go_sem, eq_self, ↓reduceIte, Nat.reduceEqDiff, Int.reduceAdd, Int.reduceSub]
  refine anew_intro fun g g1 g2 g3 => ?_
  have g0 := g1
  try simp only [upd_none] at g0
  simp (disch := first | omega | assumption | (simp only [tab_len, List.length_cons, List.length_append, List.length_set, List.length_nil, List.length_replicate, List.length_map, one_int, one_bool, one_slice, one_upd, one_lay, one_if, one_c, one_by8, one_row, one_sq, one_grp, nums_len, one_alg, one_num, one_boolF, one_pair, one_zP] <;> omega) | fail) only [go_sem, eq_self, ↓reduceIte, Nat.reduceEqDiff, Int.reduceAdd, Int.reduceSub]
  refine vc_up n 0 (fun i env M ψ => none' = ψ ∧ Has M g 35 (tab 37 (grpF G)) ∧ env 7 = .int .i64 i ∧ ∀ i' < i, ∀ j < n, CocAt L n G p i' j) (by omega) ?_ ?_
  · refine ⟨rfl, ?_, ?_, fun j hj => by omega⟩
    · rw [has_same]; exact ⟨rfl, rfl⟩
    · simp (disch := first | omega | assumption | (simp only [tab_len, List.length_cons, List.length_append, List.length_set, List.length_nil, List.length_replicate, List.length_map, one_int, one_bool, one_slice, one_upd, one_lay, one_if, one_c, one_by8, one_row, one_sq, one_grp, nums_len, one_alg, one_num, one_boolF, one_pair, one_zP] <;> omega) | fail) only [go_sem, eq_self, ↓reduceIte, Nat.reduceEqDiff, Int.reduceAdd, Int.reduceSub]
  · rintro i env M ψ hi hf - ap ⟨rfl, ⟨tg, hgr⟩, e7, hok⟩ K hK
    have e0 := hf 0 (by kernel_rfl)
    have e2 := hf 2 (by kernel_rfl)
    have e4 := hf 4 (by kernel_rfl)
    simp (disch := first | omega | assumption | (simp only [tab_len, List.length_cons, List.length_append, List.length_set, List.length_nil, List.length_replicate, List.length_map, one_int, one_bool, one_slice, one_upd, one_lay, one_if, one_c, one_by8, one_row, one_sq, one_grp, nums_len, one_alg, one_num, one_boolF, one_pair, one_zP] <;> omega) | fail) only [go_sem, eq_self, ↓reduceIte, Nat.reduceEqDiff, Int.reduceAdd, Int.reduceSub] at e0
    simp (disch := first | omega | assumption | (simp only [tab_len, List.length_cons, List.length_append, List.length_set, List.length_nil, List.length_replicate, List.length_map, one_int, one_bool, one_slice, one_upd, one_lay, one_if, one_c, one_by8, one_row, one_sq, one_grp, nums_len, one_alg, one_num, one_boolF, one_pair, one_zP] <;> omega) | fail) only [go_sem, eq_self, ↓reduceIte, Nat.reduceEqDiff, Int.reduceAdd, Int.reduceSub] at e2
    simp (disch := first | omega | assumption | (simp only [tab_len, List.length_cons, List.length_append, List.length_set, List.length_nil, List.length_replicate, List.length_map, one_int, one_bool, one_slice, one_upd, one_lay, one_if, one_c, one_by8, one_row, one_sq, one_grp, nums_len, one_alg, one_num, one_boolF, one_pair, one_zP] <;> omega) | fail) only [go_sem, eq_self, ↓reduceIte, Nat.reduceEqDiff, Int.reduceAdd, Int.reduceSub] at e4
    simp (disch := first | omega | assumption | (simp only [tab_len, List.length_cons, List.length_append, List.length_set, List.length_nil, List.length_replicate, List.length_map, one_int, one_bool, one_slice, one_upd, one_lay, one_if, one_c, one_by8, one_row, one_sq, one_grp, nums_len, one_alg, one_num, one_boolF, one_pair, one_zP] <;> omega) | fail) only [go_sem, eq_self, ↓reduceIte, Nat.reduceEqDiff, Int.reduceAdd, Int.reduceSub, e4, e7, hgr, grpF_0, hn]
    refine ifB_dec (fun h => ?_) (fun h => ?_)
    · simp (disch := first | omega | assumption | (simp only [tab_len, List.length_cons, List.length_append, List.length_set, List.length_nil, List.length_replicate, List.length_map, one_int, one_bool, one_slice, one_upd, one_lay, one_if, one_c, one_by8, one_row, one_sq, one_grp, nums_len, one_alg, one_num, one_boolF, one_pair, one_zP] <;> omega) | fail) only [go_sem, eq_self, ↓reduceIte, Nat.reduceEqDiff, Int.reduceAdd, Int.reduceSub]
      refine vc_up n 0 (fun j env M ψ => none' = ψ ∧ Has M g 35 (tab 37 (grpF G)) ∧ env 8 = .int .i64 j ∧ ∀ j' < j, CocAt L n G p i j') (by omega) ?_ ?_
      · refine ⟨rfl, ⟨_, hgr⟩, ?_, fun j hj => by omega⟩
        simp (disch := first | omega | assumption | (simp only [tab_len, List.length_cons, List.length_append, List.length_set, List.length_nil, List.length_replicate, List.length_map, one_int, one_bool, one_slice, one_upd, one_lay, one_if, one_c, one_by8, one_row, one_sq, one_grp, nums_len, one_alg, one_num, one_boolF, one_pair, one_zP] <;> omega) | fail) only [go_sem, eq_self, ↓reduceIte, Nat.reduceEqDiff, Int.reduceAdd, Int.reduceSub]
      · rintro j env2 M ψ hj hf2 - ap2 ⟨rfl, ⟨tg, hgr⟩, e8, hok2⟩ K2 hK2
        have u0 := hf2 0 (by kernel_rfl)
        have u2 := hf2 2 (by kernel_rfl)
        have u4 := hf2 4 (by kernel_rfl)
        have u7 := hf2 7 (by kernel_rfl)
        simp (disch := first | omega | assumption | (simp only [tab_len, List.length_cons, List.length_append, List.length_set, List.length_nil, List.length_replicate, List.length_map, one_int, one_bool, one_slice, one_upd, one_lay, one_if, one_c, one_by8, one_row, one_sq, one_grp, nums_len, one_alg, one_num, one_boolF, one_pair, one_zP] <;> omega) | fail) only [go_sem, eq_self, ↓reduceIte, Nat.reduceEqDiff, Int.reduceAdd, Int.reduceSub, e0, e2, e4, e7] at u0
        simp (disch := first | omega | assumption | (simp only [tab_len, List.length_cons, List.length_append, List.length_set, List.length_nil, List.length_replicate, List.length_map, one_int, one_bool, one_slice, one_upd, one_lay, one_if, one_c, one_by8, one_row, one_sq, one_grp, nums_len, one_alg, one_num, one_boolF, one_pair, one_zP] <;> omega) | fail) only [go_sem, eq_self, ↓reduceIte, Nat.reduceEqDiff, Int.reduceAdd, Int.reduceSub, e0, e2, e4, e7] at u2
        simp (disch := first | omega | assumption | (simp only [tab_len, List.length_cons, List.length_append, List.length_set, List.length_nil, List.length_replicate, List.length_map, one_int, one_bool, one_slice, one_upd, one_lay, one_if, one_c, one_by8, one_row, one_sq, one_grp, nums_len, one_alg, one_num, one_boolF, one_pair, one_zP] <;> omega) | fail) only [go_sem, eq_self, ↓reduceIte, Nat.reduceEqDiff, Int.reduceAdd, Int.reduceSub, e0, e2, e4, e7] at u4
        simp (disch := first | omega | assumption | (simp only [tab_len, List.length_cons, List.length_append, List.length_set, List.length_nil, List.length_replicate, List.length_map, one_int, one_bool, one_slice, one_upd, one_lay, one_if, one_c, one_by8, one_row, one_sq, one_grp, nums_len, one_alg, one_num, one_boolF, one_pair, one_zP] <;> omega) | fail) only [go_sem, eq_self, ↓reduceIte, Nat.reduceEqDiff, Int.reduceAdd, Int.reduceSub, e0, e2, e4, e7] at u7
        simp (disch := first | omega | assumption | (simp only [tab_len, List.length_cons, List.length_append, List.length_set, List.length_nil, List.length_replicate, List.length_map, one_int, one_bool, one_slice, one_upd, one_lay, one_if, one_c, one_by8, one_row, one_sq, one_grp, nums_len, one_alg, one_num, one_boolF, one_pair, one_zP] <;> omega) | fail) only [go_sem, eq_self, ↓reduceIte, Nat.reduceEqDiff, Int.reduceAdd, Int.reduceSub, u4, e8, hgr, grpF_0, hn]
        refine ifB_dec (fun h2 => ?_) (fun h2 => ?_)
        · have aA := (ap2 b _).1 hA
          have aB := fun i (hi : i < n) => ((ap2 (B i) _).1 (hB i hi)).1
          simp (disch := first | omega | assumption | (simp only [tab_len, List.length_cons, List.length_append, List.length_set, List.length_nil, List.length_replicate, List.length_map, one_int, one_bool, one_slice, one_upd, one_lay, one_if, one_c, one_by8, one_row, one_sq, one_grp, nums_len, one_alg, one_num, one_boolF, one_pair, one_zP] <;> omega) | fail) only [go_sem, eq_self, ↓reduceIte, Nat.reduceEqDiff, Int.reduceAdd, Int.reduceSub, u2, u7, e8, aA.1, hA, hcs, aB, hB, hCS]
          refine ifB_dec (fun h0 => ?_) (fun h0 => ?_)
          · simp (disch := first | omega | assumption | (simp only [tab_len, List.length_cons, List.length_append, List.length_set, List.length_nil, List.length_replicate, List.length_map, one_int, one_bool, one_slice, one_upd, one_lay, one_if, one_c, one_by8, one_row, one_sq, one_grp, nums_len, one_alg, one_num, one_boolF, one_pair, one_zP] <;> omega) | fail) only [go_sem, eq_self, ↓reduceIte, Nat.reduceEqDiff, Int.reduceAdd, Int.reduceSub]
            refine up_plain ?_ (fun _ => rfl) rfl
            rw [dec_false (p := Coc L n G p) fun h => (h.1 i (by omega) j (by omega)).1 h0]
          · simp (disch := first | omega | assumption | (simp only [tab_len, List.length_cons, List.length_append, List.length_set, List.length_nil, List.length_replicate, List.length_map, one_int, one_bool, one_slice, one_upd, one_lay, one_if, one_c, one_by8, one_row, one_sq, one_grp, nums_len, one_alg, one_num, one_boolF, one_pair, one_zP] <;> omega) | fail) only [go_sem, eq_self, ↓reduceIte, Nat.reduceEqDiff, Int.reduceAdd, Int.reduceSub]
            refine vc_up n 0 (fun k env M ψ => none' = ψ ∧ Has M g 35 (tab 37 (grpF G)) ∧ env 9 = .int .i64 k ∧ ∀ k' < k, ent L i j * ent L (mul G i j) k' % p = ent L j k' * ent L i (mul G j k') % p) (by omega) ?_ ?_
            · refine ⟨rfl, ⟨_, hgr⟩, ?_, fun j hj => by omega⟩
              simp (disch := first | omega | assumption | (simp only [tab_len, List.length_cons, List.length_append, List.length_set, List.length_nil, List.length_replicate, List.length_map, one_int, one_bool, one_slice, one_upd, one_lay, one_if, one_c, one_by8, one_row, one_sq, one_grp, nums_len, one_alg, one_num, one_boolF, one_pair, one_zP] <;> omega) | fail) only [go_sem, eq_self, ↓reduceIte, Nat.reduceEqDiff, Int.reduceAdd, Int.reduceSub]
            · rintro k env3 M ψ hk hf3 - ap3 ⟨rfl, ⟨tg, hgr⟩, e9, hok3⟩ K3 hK3
              have v0 := hf3 0 (by kernel_rfl)
              have v2 := hf3 2 (by kernel_rfl)
              have v4 := hf3 4 (by kernel_rfl)
              have v7 := hf3 7 (by kernel_rfl)
              have v8 := hf3 8 (by kernel_rfl)
              simp (disch := first | omega | assumption | (simp only [tab_len, List.length_cons, List.length_append, List.length_set, List.length_nil, List.length_replicate, List.length_map, one_int, one_bool, one_slice, one_upd, one_lay, one_if, one_c, one_by8, one_row, one_sq, one_grp, nums_len, one_alg, one_num, one_boolF, one_pair, one_zP] <;> omega) | fail) only [go_sem, eq_self, ↓reduceIte, Nat.reduceEqDiff, Int.reduceAdd, Int.reduceSub, u0, u2, u4, u7, e8] at v0
              simp (disch := first | omega | assumption | (simp only [tab_len, List.length_cons, List.length_append, List.length_set, List.length_nil, List.length_replicate, List.length_map, one_int, one_bool, one_slice, one_upd, one_lay, one_if, one_c, one_by8, one_row, one_sq, one_grp, nums_len, one_alg, one_num, one_boolF, one_pair, one_zP] <;> omega) | fail) only [go_sem, eq_self, ↓reduceIte, Nat.reduceEqDiff, Int.reduceAdd, Int.reduceSub, u0, u2, u4, u7, e8] at v2
              simp (disch := first | omega | assumption | (simp only [tab_len, List.length_cons, List.length_append, List.length_set, List.length_nil, List.length_replicate, List.length_map, one_int, one_bool, one_slice, one_upd, one_lay, one_if, one_c, one_by8, one_row, one_sq, one_grp, nums_len, one_alg, one_num, one_boolF, one_pair, one_zP] <;> omega) | fail) only [go_sem, eq_self, ↓reduceIte, Nat.reduceEqDiff, Int.reduceAdd, Int.reduceSub, u0, u2, u4, u7, e8] at v4
              simp (disch := first | omega | assumption | (simp only [tab_len, List.length_cons, List.length_append, List.length_set, List.length_nil, List.length_replicate, List.length_map, one_int, one_bool, one_slice, one_upd, one_lay, one_if, one_c, one_by8, one_row, one_sq, one_grp, nums_len, one_alg, one_num, one_boolF, one_pair, one_zP] <;> omega) | fail) only [go_sem, eq_self, ↓reduceIte, Nat.reduceEqDiff, Int.reduceAdd, Int.reduceSub, u0, u2, u4, u7, e8] at v7
              simp (disch := first | omega | assumption | (simp only [tab_len, List.length_cons, List.length_append, List.length_set, List.length_nil, List.length_replicate, List.length_map, one_int, one_bool, one_slice, one_upd, one_lay, one_if, one_c, one_by8, one_row, one_sq, one_grp, nums_len, one_alg, one_num, one_boolF, one_pair, one_zP] <;> omega) | fail) only [go_sem, eq_self, ↓reduceIte, Nat.reduceEqDiff, Int.reduceAdd, Int.reduceSub, u0, u2, u4, u7, e8] at v8
              simp (disch := first | omega | assumption | (simp only [tab_len, List.length_cons, List.length_append, List.length_set, List.length_nil, List.length_replicate, List.length_map, one_int, one_bool, one_slice, one_upd, one_lay, one_if, one_c, one_by8, one_row, one_sq, one_grp, nums_len, one_alg, one_num, one_boolF, one_pair, one_zP] <;> omega) | fail) only [go_sem, eq_self, ↓reduceIte, Nat.reduceEqDiff, Int.reduceAdd, Int.reduceSub, v4, e9, hgr, grpF_0, hn]
              refine ifB_dec (fun h3 => ?_) (fun h3 => ?_)
              · have m1 := hm i j (by omega) (by omega)
                have m2 := hm j k (by omega) (by omega)
                have d1 := mul_bd hp (hbd i j (by omega) (by omega)) (hbd (mul G i j) k m1 (by omega))
                have d2 := mul_bd hp (hbd j k (by omega) (by omega)) (hbd i (mul G j k) (by omega) m2)
                have ht1 : grpF G (1 + i * 6 + j) = .int .u8 (mul G i j : Nat) := grpF_at G i j (by omega)
                have ht2 : grpF G (1 + j * 6 + k) = .int .u8 (mul G j k : Nat) := grpF_at G j k (by omega)
                have aA := (ap3 b _).1 hA
                have aB := fun i (hi : i < n) => ((ap3 (B i) _).1 (hB i hi)).1
                simp (disch := first | omega | assumption | (simp only [tab_len, List.length_cons, List.length_append, List.length_set, List.length_nil, List.length_replicate, List.length_map, one_int, one_bool, one_slice, one_upd, one_lay, one_if, one_c, one_by8, one_row, one_sq, one_grp, nums_len, one_alg, one_num, one_boolF, one_pair, one_zP] <;> omega) | fail) only [go_sem, eq_self, ↓reduceIte, Nat.reduceEqDiff, Int.reduceAdd, Int.reduceSub]
                refine run_drawn [(0, []), (1, []), (2, []), (3, []), (4, []), (5, []), (6, []), (7, []), (8, []), (9, []), (10, []), (11, []), (12, []), (13, []), (14, []), (15, []), (16, []), (17, []), (18, []), (19, []), (20, []), (21, []), (22, [])] (by kernel_rfl) ?_
                simp (disch := first | omega | assumption | (simp only [tab_len, List.length_cons, List.length_append, List.length_set, List.length_nil, List.length_replicate, List.length_map, one_int, one_bool, one_slice, one_upd, one_lay, one_if, one_c, one_by8, one_row, one_sq, one_grp, nums_len, one_alg, one_num, one_boolF, one_pair, one_zP] <;> omega) | fail) only [go_sem, eq_self, ↓reduceIte, Nat.reduceEqDiff, Int.reduceAdd, Int.reduceSub, v0, v2, v4, v7, v8, e9, hgr, aA.1, hA, hcs, aB, hB, hCS, ht1, s_tmod]
                refine run_drawn [(0, []), (1, []), (2, []), (3, []), (4, []), (5, []), (6, []), (7, []), (8, []), (9, []), (10, []), (11, []), (12, []), (13, []), (14, []), (15, []), (16, []), (17, []), (18, []), (19, []), (20, []), (21, []), (22, []), (23, [])] (by kernel_rfl) ?_
                simp (disch := first | omega | assumption | (simp only [tab_len, List.length_cons, List.length_append, List.length_set, List.length_nil, List.length_replicate, List.length_map, one_int, one_bool, one_slice, one_upd, one_lay, one_if, one_c, one_by8, one_row, one_sq, one_grp, nums_len, one_alg, one_num, one_boolF, one_pair, one_zP] <;> omega) | fail) only [go_sem, eq_self, ↓reduceIte, Nat.reduceEqDiff, Int.reduceAdd, Int.reduceSub, v0, v2, v4, v7, v8, e9, hgr, aA.1, hA, hcs, aB, hB, hCS, ht2, s_tmod]
                refine ifB_ndec (fun h4 => ?_) (fun h4 => ?_)
                · simp (disch := first | omega | assumption | (simp only [tab_len, List.length_cons, List.length_append, List.length_set, List.length_nil, List.length_replicate, List.length_map, one_int, one_bool, one_slice, one_upd, one_lay, one_if, one_c, one_by8, one_row, one_sq, one_grp, nums_len, one_alg, one_num, one_boolF, one_pair, one_zP] <;> omega) | fail) only [go_sem, eq_self, ↓reduceIte, Nat.reduceEqDiff, Int.reduceAdd, Int.reduceSub]
                  refine up_plain ?_ (fun _ => rfl) rfl
                  rw [dec_false (p := Coc L n G p) fun h => h4 ((h.1 i (by omega) j (by omega)).2 k (by omega))]
                · simp (disch := first | omega | assumption | (simp only [tab_len, List.length_cons, List.length_append, List.length_set, List.length_nil, List.length_replicate, List.length_map, one_int, one_bool, one_slice, one_upd, one_lay, one_if, one_c, one_by8, one_row, one_sq, one_grp, nums_len, one_alg, one_num, one_boolF, one_pair, one_zP] <;> omega) | fail) only [go_sem, eq_self, ↓reduceIte, Nat.reduceEqDiff, Int.reduceAdd, Int.reduceSub, e9]
                  refine hK3 _ _ _ (by omega) (Up.here ⟨rfl, ⟨_, hgr⟩, ?_, all_succ hok3 h4⟩)
                  simp (disch := first | omega | assumption | (simp only [tab_len, List.length_cons, List.length_append, List.length_set, List.length_nil, List.length_replicate, List.length_map, one_int, one_bool, one_slice, one_upd, one_lay, one_if, one_c, one_by8, one_row, one_sq, one_grp, nums_len, one_alg, one_num, one_boolF, one_pair, one_zP] <;> omega) | fail) only [go_sem, eq_self, ↓reduceIte, Nat.reduceEqDiff, Int.reduceAdd, Int.reduceSub]
              · have : k = n := by omega
                subst this
                simp (disch := first | omega | assumption | (simp only [tab_len, List.length_cons, List.length_append, List.length_set, List.length_nil, List.length_replicate, List.length_map, one_int, one_bool, one_slice, one_upd, one_lay, one_if, one_c, one_by8, one_row, one_sq, one_grp, nums_len, one_alg, one_num, one_boolF, one_pair, one_zP] <;> omega) | fail) only [go_sem, eq_self, ↓reduceIte, Nat.reduceEqDiff, Int.reduceAdd, Int.reduceSub, v8]
                refine hK2 _ _ _ (by omega) (Up.here ⟨rfl, ⟨_, hgr⟩, ?_, all_succ hok2 ⟨h0, hok3⟩⟩)
                simp (disch := first | omega | assumption | (simp only [tab_len, List.length_cons, List.length_append, List.length_set, List.length_nil, List.length_replicate, List.length_map, one_int, one_bool, one_slice, one_upd, one_lay, one_if, one_c, one_by8, one_row, one_sq, one_grp, nums_len, one_alg, one_num, one_boolF, one_pair, one_zP] <;> omega) | fail) only [go_sem, eq_self, ↓reduceIte, Nat.reduceEqDiff, Int.reduceAdd, Int.reduceSub]
        · have : j = n := by omega
          subst this
          simp (disch := first | omega | assumption | (simp only [tab_len, List.length_cons, List.length_append, List.length_set, List.length_nil, List.length_replicate, List.length_map, one_int, one_bool, one_slice, one_upd, one_lay, one_if, one_c, one_by8, one_row, one_sq, one_grp, nums_len, one_alg, one_num, one_boolF, one_pair, one_zP] <;> omega) | fail) only [go_sem, eq_self, ↓reduceIte, Nat.reduceEqDiff, Int.reduceAdd, Int.reduceSub, u7]
          refine hK _ _ _ (by omega) (Up.here ⟨rfl, ⟨_, hgr⟩, ?_, all_succ hok hok2⟩)
          simp (disch := first | omega | assumption | (simp only [tab_len, List.length_cons, List.length_append, List.length_set, List.length_nil, List.length_replicate, List.length_map, one_int, one_bool, one_slice, one_upd, one_lay, one_if, one_c, one_by8, one_row, one_sq, one_grp, nums_len, one_alg, one_num, one_boolF, one_pair, one_zP] <;> omega) | fail) only [go_sem, eq_self, ↓reduceIte, Nat.reduceEqDiff, Int.reduceAdd, Int.reduceSub]
    · have : i = n := by omega
      subst this
      have q1 := hcs 0 (by omega)
      have q2 := hB 0 (by omega)
      have q3 := hCS 0 0 (by omega) (by omega)
      simp only [Nat.add_zero] at q1 q3
      have aA := (ap b _).1 hA
      have aB := ((ap (B 0) _).1 q2).1
      simp (disch := first | omega | assumption | (simp only [tab_len, List.length_cons, List.length_append, List.length_set, List.length_nil, List.length_replicate, List.length_map, one_int, one_bool, one_slice, one_upd, one_lay, one_if, one_c, one_by8, one_row, one_sq, one_grp, nums_len, one_alg, one_num, one_boolF, one_pair, one_zP] <;> omega) | fail) only [go_sem, eq_self, ↓reduceIte, Nat.reduceEqDiff, Int.reduceAdd, Int.reduceSub, e2, hA, q1, q2, q3, aA.1, aB]
      refine up_plain ?_ (fun _ => rfl) rfl
      by_cases h1 : ent L 0 0 = 1
      · rw [dec_true (p := Coc L i G p) ⟨hok, h1⟩]; simp [h1]
      · rw [dec_false (p := Coc L i G p) fun h => h1 h.2]; simp [h1]
end Go.Proofs.Ytbenllhoofoahaa

