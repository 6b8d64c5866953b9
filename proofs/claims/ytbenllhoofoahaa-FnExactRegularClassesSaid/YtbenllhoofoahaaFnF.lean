/- Sorting of short lists of numbers. -/
import Derived.Test.YtbenllhoofoahaaFnE
namespace Go.Proofs.Ytbenllhoofoahaa
set_option linter.unusedSimpArgs false
set_option linter.unusedVariables false
set_option maxRecDepth 4000
open Go Go.Vc
theorem fn_isNaN (κ : Mem) (x : Int) : Gives Try.prog 89 [i64 x] κ (.bool false) := by
  refine gives_of (rs := [.tmp 2]) mixed Try.func89 rfl ok89 (by kernel_rfl) (by show 1 ≤ _; decide) rfl ?_
  simp (disch := first | omega | assumption | (simp only [tab_len, List.length_cons, List.length_append, List.length_set, List.length_nil, List.length_replicate, List.length_map, one_int, one_bool, one_slice, one_upd, one_lay, one_if, one_c, one_by8, one_row, one_sq, one_grp, nums_len, one_alg, one_num] <;> omega)) only [go_sem, ↓reduceIte, Nat.reduceEqDiff, Int.reduceAdd, Int.reduceSub]
  exact up_plain rfl (fun _ => rfl) rfl
theorem fn_less (κ : Mem) (x y : Int) : Gives Try.prog 75 [i64 x, i64 y] κ (.bool (decide (x < y))) := by
  refine gives_of (rs := [.tmp 4]) mixed Try.func75 rfl ok75 (by kernel_rfl) (by show 2 ≤ _; decide) rfl ?_
  simp (disch := first | omega | assumption | (simp only [tab_len, List.length_cons, List.length_append, List.length_set, List.length_nil, List.length_replicate, List.length_map, one_int, one_bool, one_slice, one_upd, one_lay, one_if, one_c, one_by8, one_row, one_sq, one_grp, nums_len, one_alg, one_num] <;> omega)) only [go_sem, ↓reduceIte, Nat.reduceEqDiff, Int.reduceAdd, Int.reduceSub]
  refine callB_gives (fn_isNaN _ x) ?_
  simp (disch := first | omega | assumption | (simp only [tab_len, List.length_cons, List.length_append, List.length_set, List.length_nil, List.length_replicate, List.length_map, one_int, one_bool, one_slice, one_upd, one_lay, one_if, one_c, one_by8, one_row, one_sq, one_grp, nums_len, one_alg, one_num] <;> omega)) only [go_sem, ↓reduceIte, Nat.reduceEqDiff, Int.reduceAdd, Int.reduceSub]
  exact up_plain rfl (fun _ => rfl) rfl
/-- The same numbers, in order. -/
def Same (n : Nat) (f g : Nat → Int) : Prop := ∀ v, (∃ i < n, g i = v) ↔ (∃ i < n, f i = v)
def Asc (n : Nat) (g : Nat → Int) : Prop := ∀ x y, x < y → y < n → g x ≤ g y
theorem same_swap {n a b : Nat} {g : Nat → Int} (ha : a < n) (hb : b < n) (hab : a ≠ b) : Same n g (upd (upd g a (g b)) b (g a)) := fun v => by
  have e1 : ∀ z, z ≠ b → z ≠ a → upd (upd g a (g b)) b (g a) z = g z := fun z h h' => by rw [upd_ne h, upd_ne h']
  have e2 : upd (upd g a (g b)) b (g a) b = g a := upd_same ..
  have e3 : upd (upd g a (g b)) b (g a) a = g b := by rw [upd_ne hab, upd_same]
  constructor
  · rintro ⟨i, hi, h⟩
    by_cases h1 : i = b
    · subst h1; rw [e2] at h; exact ⟨a, ha, h⟩
    · by_cases h2 : i = a
      · subst h2; rw [e3] at h; exact ⟨b, hb, h⟩
      · rw [e1 i h1 h2] at h; exact ⟨i, hi, h⟩
  · rintro ⟨i, hi, h⟩
    by_cases h1 : i = b
    · subst h1; exact ⟨a, ha, by rw [e3]; exact h⟩
    · by_cases h2 : i = a
      · subst h2; exact ⟨b, hb, by rw [e2]; exact h⟩
      · exact ⟨i, hi, by rw [e1 i h1 h2]; exact h⟩
theorem fn_insertion (κ : Mem) (b c t n : Nat) (f : Nat → Int) (hn : n ≤ 1000) :
    Edits Try.prog 69 [.slice (some ⟨b, 0, none⟩) n c, i64 0, i64 n] κ b ⟨2, tab n (numF f), t⟩ (fun v e => ∃ g, Same n f g ∧ Asc n g ∧ e = ⟨2, tab n (numF g), t⟩) := by
  refine edits_of (rs := []) mixed Try.func69 rfl ok69 (by kernel_rfl) (by show 3 ≤ _; decide) rfl ?_
  simp (disch := first | omega | assumption | (simp only [tab_len, List.length_cons, List.length_append, List.length_set, List.length_nil, List.length_replicate, List.length_map, one_int, one_bool, one_slice, one_upd, one_lay, one_if, one_c, one_by8, one_row, one_sq, one_grp, nums_len, one_alg, one_num] <;> omega)) only [go_sem, ↓reduceIte, Nat.reduceEqDiff, Int.reduceAdd, Int.reduceSub]
  refine vc_up (max 1 n) 1 (fun i env M ψ => ψ = none' ∧ 1 ≤ i ∧ env 6 = .int .i64 i ∧ ∃ g, M b = some ⟨2, tab n (numF g), t⟩ ∧ Same n f g ∧ ∀ x y, x < y → y < i → y < n → g x ≤ g y) (by omega) ?_ ?_
  · refine ⟨rfl, by omega, ?_, f, upd_same .., fun v => Iff.rfl, fun x y h1 h2 h3 => (by omega)⟩
    simp (disch := first | omega | assumption | (simp only [tab_len, List.length_cons, List.length_append, List.length_set, List.length_nil, List.length_replicate, List.length_map, one_int, one_bool, one_slice, one_upd, one_lay, one_if, one_c, one_by8, one_row, one_sq, one_grp, nums_len, one_alg, one_num] <;> omega)) only [go_sem, ↓reduceIte, Nat.reduceEqDiff, Int.reduceAdd, Int.reduceSub]
  · rintro i env M ψ hi hf - ap ⟨rfl, h1, e6, g, hg, hs, ha⟩ K hK
    have e0 := hf 0 (by kernel_rfl)
    have e1 := hf 1 (by kernel_rfl)
    have e2 := hf 2 (by kernel_rfl)
    simp (disch := first | omega | assumption | (simp only [tab_len, List.length_cons, List.length_append, List.length_set, List.length_nil, List.length_replicate, List.length_map, one_int, one_bool, one_slice, one_upd, one_lay, one_if, one_c, one_by8, one_row, one_sq, one_grp, nums_len, one_alg, one_num] <;> omega)) only [go_sem, ↓reduceIte, Nat.reduceEqDiff, Int.reduceAdd, Int.reduceSub] at e0
    simp (disch := first | omega | assumption | (simp only [tab_len, List.length_cons, List.length_append, List.length_set, List.length_nil, List.length_replicate, List.length_map, one_int, one_bool, one_slice, one_upd, one_lay, one_if, one_c, one_by8, one_row, one_sq, one_grp, nums_len, one_alg, one_num] <;> omega)) only [go_sem, ↓reduceIte, Nat.reduceEqDiff, Int.reduceAdd, Int.reduceSub] at e1
    simp (disch := first | omega | assumption | (simp only [tab_len, List.length_cons, List.length_append, List.length_set, List.length_nil, List.length_replicate, List.length_map, one_int, one_bool, one_slice, one_upd, one_lay, one_if, one_c, one_by8, one_row, one_sq, one_grp, nums_len, one_alg, one_num] <;> omega)) only [go_sem, ↓reduceIte, Nat.reduceEqDiff, Int.reduceAdd, Int.reduceSub] at e2
    simp (disch := first | omega | assumption | (simp only [tab_len, List.length_cons, List.length_append, List.length_set, List.length_nil, List.length_replicate, List.length_map, one_int, one_bool, one_slice, one_upd, one_lay, one_if, one_c, one_by8, one_row, one_sq, one_grp, nums_len, one_alg, one_num] <;> omega)) only [go_sem, ↓reduceIte, Nat.reduceEqDiff, Int.reduceAdd, Int.reduceSub, e2, e6]
    refine ifB_dec (fun h => ?_) (fun h => ?_)
    · simp (disch := first | omega | assumption | (simp only [tab_len, List.length_cons, List.length_append, List.length_set, List.length_nil, List.length_replicate, List.length_map, one_int, one_bool, one_slice, one_upd, one_lay, one_if, one_c, one_by8, one_row, one_sq, one_grp, nums_len, one_alg, one_num] <;> omega)) only [go_sem, ↓reduceIte, Nat.reduceEqDiff, Int.reduceAdd, Int.reduceSub, e0, e1, e2, e6]
      refine run_loop (fun j env M ψ => ψ = none' ∧ j ≤ i ∧ env 7 = .int .i64 j ∧ ∃ g, M b = some ⟨2, tab n (numF g), t⟩ ∧ Same n f g ∧ (∀ x y, x < y → y ≤ i → y ≠ j → g x ≤ g y)) i ?_ ?_
      · refine ⟨rfl, Nat.le_refl _, ?_, g, hg, hs, fun x y h2 h3 h4 => ha x y h2 (by omega) (by omega)⟩
        simp (disch := first | omega | assumption | (simp only [tab_len, List.length_cons, List.length_append, List.length_set, List.length_nil, List.length_replicate, List.length_map, one_int, one_bool, one_slice, one_upd, one_lay, one_if, one_c, one_by8, one_row, one_sq, one_grp, nums_len, one_alg, one_num] <;> omega)) only [go_sem, ↓reduceIte, Nat.reduceEqDiff, Int.reduceAdd, Int.reduceSub]
      · rintro j env2 M ψ hf2 - ap2 ⟨rfl, hj, e7, g, hg, hs, ha⟩ K2 hK2
        have u0 := hf2 0 (by kernel_rfl)
        have u1 := hf2 1 (by kernel_rfl)
        have u2 := hf2 2 (by kernel_rfl)
        have u6 := hf2 6 (by kernel_rfl)
        simp (disch := first | omega | assumption | (simp only [tab_len, List.length_cons, List.length_append, List.length_set, List.length_nil, List.length_replicate, List.length_map, one_int, one_bool, one_slice, one_upd, one_lay, one_if, one_c, one_by8, one_row, one_sq, one_grp, nums_len, one_alg, one_num] <;> omega)) only [go_sem, ↓reduceIte, Nat.reduceEqDiff, Int.reduceAdd, Int.reduceSub, e0, e1, e2, e6] at u0
        simp (disch := first | omega | assumption | (simp only [tab_len, List.length_cons, List.length_append, List.length_set, List.length_nil, List.length_replicate, List.length_map, one_int, one_bool, one_slice, one_upd, one_lay, one_if, one_c, one_by8, one_row, one_sq, one_grp, nums_len, one_alg, one_num] <;> omega)) only [go_sem, ↓reduceIte, Nat.reduceEqDiff, Int.reduceAdd, Int.reduceSub, e0, e1, e2, e6] at u1
        simp (disch := first | omega | assumption | (simp only [tab_len, List.length_cons, List.length_append, List.length_set, List.length_nil, List.length_replicate, List.length_map, one_int, one_bool, one_slice, one_upd, one_lay, one_if, one_c, one_by8, one_row, one_sq, one_grp, nums_len, one_alg, one_num] <;> omega)) only [go_sem, ↓reduceIte, Nat.reduceEqDiff, Int.reduceAdd, Int.reduceSub, e0, e1, e2, e6] at u2
        simp (disch := first | omega | assumption | (simp only [tab_len, List.length_cons, List.length_append, List.length_set, List.length_nil, List.length_replicate, List.length_map, one_int, one_bool, one_slice, one_upd, one_lay, one_if, one_c, one_by8, one_row, one_sq, one_grp, nums_len, one_alg, one_num] <;> omega)) only [go_sem, ↓reduceIte, Nat.reduceEqDiff, Int.reduceAdd, Int.reduceSub, e0, e1, e2, e6] at u6
        simp (disch := first | omega | assumption | (simp only [tab_len, List.length_cons, List.length_append, List.length_set, List.length_nil, List.length_replicate, List.length_map, one_int, one_bool, one_slice, one_upd, one_lay, one_if, one_c, one_by8, one_row, one_sq, one_grp, nums_len, one_alg, one_num] <;> omega)) only [go_sem, ↓reduceIte, Nat.reduceEqDiff, Int.reduceAdd, Int.reduceSub, u0, u1, e7]
        refine run_drawn [(0, []), (1, []), (2, []), (3, []), (4, []), (5, []), (6, []), (7, []), (8, []), (9, []), (10, []), (11, []), (12, []), (13, []), (14, [])] (by kernel_rfl) ?_
        simp (disch := first | omega | assumption | (simp only [tab_len, List.length_cons, List.length_append, List.length_set, List.length_nil, List.length_replicate, List.length_map, one_int, one_bool, one_slice, one_upd, one_lay, one_if, one_c, one_by8, one_row, one_sq, one_grp, nums_len, one_alg, one_num] <;> omega)) only [go_sem, ↓reduceIte, Nat.reduceEqDiff, Int.reduceAdd, Int.reduceSub, u0, u1, e7]
        have done : (∀ x, x < j → g x ≤ g j) → ∀ x y, x < y → y < i + 1 → y < n → g x ≤ g y := fun h0 x y h1 h2 h3 => by
          by_cases hy : y = j
          · subst hy; exact h0 x h1
          · exact ha x y h1 (by omega) hy
        by_cases h2 : (0 : Int) < (j : Int)
        · obtain ⟨j, rfl⟩ : ∃ k, j = k + 1 := ⟨j - 1, by omega⟩
          have h2 : (0 : Int) < (j : Int) + 1 := by omega
          simp (disch := first | omega | assumption | (simp only [tab_len, List.length_cons, List.length_append, List.length_set, List.length_nil, List.length_replicate, List.length_map, one_int, one_bool, one_slice, one_upd, one_lay, one_if, one_c, one_by8, one_row, one_sq, one_grp, nums_len, one_alg, one_num] <;> omega)) only [go_sem, ↓reduceIte, Nat.reduceEqDiff, Int.reduceAdd, Int.reduceSub, h2, u0, u1, e7, hg, numF, Int.add_sub_cancel, Int.toNat_natCast_add_one]
          refine callB0_gives (fn_less _ (g (j + 1)) (g j)) ?_
          simp (disch := first | omega | assumption | (simp only [tab_len, List.length_cons, List.length_append, List.length_set, List.length_nil, List.length_replicate, List.length_map, one_int, one_bool, one_slice, one_upd, one_lay, one_if, one_c, one_by8, one_row, one_sq, one_grp, nums_len, one_alg, one_num] <;> omega)) only [go_sem, ↓reduceIte, Nat.reduceEqDiff, Int.reduceAdd, Int.reduceSub, h2, u0, u1, e7, hg, numF, Int.add_sub_cancel, Int.toNat_natCast_add_one]
          refine ifB_dec (fun h3 => ?_) (fun h3 => ?_)
          · simp (disch := first | omega | assumption | (simp only [tab_len, List.length_cons, List.length_append, List.length_set, List.length_nil, List.length_replicate, List.length_map, one_int, one_bool, one_slice, one_upd, one_lay, one_if, one_c, one_by8, one_row, one_sq, one_grp, nums_len, one_alg, one_num] <;> omega)) only [go_sem, ↓reduceIte, Nat.reduceEqDiff, Int.reduceAdd, Int.reduceSub, u0, e7]
            refine run_drawn [(0, []), (1, []), (2, []), (3, []), (4, []), (5, []), (6, []), (7, []), (8, []), (9, []), (10, []), (11, []), (12, []), (13, []), (14, []), (15, []), (16, []), (17, [])] (by kernel_rfl) ?_
            simp (disch := first | omega | assumption | (simp only [tab_len, List.length_cons, List.length_append, List.length_set, List.length_nil, List.length_replicate, List.length_map, one_int, one_bool, one_slice, one_upd, one_lay, one_if, one_c, one_by8, one_row, one_sq, one_grp, nums_len, one_alg, one_num] <;> omega)) only [go_sem, ↓reduceIte, Nat.reduceEqDiff, Int.reduceAdd, Int.reduceSub, u0, e7, hg, numF, Int.add_sub_cancel, Int.toNat_natCast_add_one]
            refine hK2 j _ _ _ (by omega) (Up.here ⟨rfl, by omega, ?_, upd (upd g (j + 1) (g j)) j (g (j + 1)), ?_, ?_, ?_⟩)
            · simp (disch := first | omega | assumption | (simp only [tab_len, List.length_cons, List.length_append, List.length_set, List.length_nil, List.length_replicate, List.length_map, one_int, one_bool, one_slice, one_upd, one_lay, one_if, one_c, one_by8, one_row, one_sq, one_grp, nums_len, one_alg, one_num] <;> omega)) only [go_sem, ↓reduceIte, Nat.reduceEqDiff, Int.reduceAdd, Int.reduceSub]
            · simp (disch := first | omega | assumption | (simp only [tab_len, List.length_cons, List.length_append, List.length_set, List.length_nil, List.length_replicate, List.length_map, one_int, one_bool, one_slice, one_upd, one_lay, one_if, one_c, one_by8, one_row, one_sq, one_grp, nums_len, one_alg, one_num] <;> omega)) only [go_sem, ↓reduceIte, Nat.reduceEqDiff, Int.reduceAdd, Int.reduceSub, num_upd]
            · exact fun v => (same_swap (by omega) (by omega) (by omega) v).trans (hs v)
            · intro x y h4 h5 h6
              have e1 : ∀ z, z ≠ j → z ≠ j + 1 → upd (upd g (j + 1) (g j)) j (g (j + 1)) z = g z := fun z h h' => by rw [upd_ne h, upd_ne h']
              have e2 : upd (upd g (j + 1) (g j)) j (g (j + 1)) j = g (j + 1) := upd_same ..
              have e3 : upd (upd g (j + 1) (g j)) j (g (j + 1)) (j + 1) = g j := by rw [upd_ne (by omega), upd_same]
              by_cases hy : y = j + 1
              · subst hy; rw [e3]
                by_cases hx : x = j
                · subst hx; rw [e2]; omega
                · rw [e1 x hx (by omega)]; exact ha x j (by omega) (by omega) (by omega)
              · rw [e1 y h6 hy]
                by_cases hx : x = j
                · subst hx; rw [e2]
                  exact ha (x + 1) y (by omega) (by omega) (by omega)
                · by_cases hx' : x = j + 1
                  · subst hx'; rw [e3]; exact ha j y (by omega) (by omega) (by omega)
                  · rw [e1 x hx hx']; exact ha x y (by omega) (by omega) (by omega)
          · simp (disch := first | omega | assumption | (simp only [tab_len, List.length_cons, List.length_append, List.length_set, List.length_nil, List.length_replicate, List.length_map, one_int, one_bool, one_slice, one_upd, one_lay, one_if, one_c, one_by8, one_row, one_sq, one_grp, nums_len, one_alg, one_num] <;> omega)) only [go_sem, ↓reduceIte, Nat.reduceEqDiff, Int.reduceAdd, Int.reduceSub, u6]
            refine hK _ _ _ (by omega) (Up.here ⟨rfl, by omega, ?_, g, hg, hs, done fun x hx => ?_⟩)
            · simp (disch := first | omega | assumption | (simp only [tab_len, List.length_cons, List.length_append, List.length_set, List.length_nil, List.length_replicate, List.length_map, one_int, one_bool, one_slice, one_upd, one_lay, one_if, one_c, one_by8, one_row, one_sq, one_grp, nums_len, one_alg, one_num] <;> omega)) only [go_sem, ↓reduceIte, Nat.reduceEqDiff, Int.reduceAdd, Int.reduceSub]
            · by_cases hxj : x = j
              · subst hxj; omega
              · have := ha x j (by omega) (by omega) (by omega); omega
        · obtain rfl : j = 0 := by omega
          simp (disch := first | omega | assumption | (simp only [tab_len, List.length_cons, List.length_append, List.length_set, List.length_nil, List.length_replicate, List.length_map, one_int, one_bool, one_slice, one_upd, one_lay, one_if, one_c, one_by8, one_row, one_sq, one_grp, nums_len, one_alg, one_num] <;> omega)) only [go_sem, ↓reduceIte, Nat.reduceEqDiff, Int.reduceAdd, Int.reduceSub, h2, u0, u1, u6, e7]
          refine hK _ _ _ (by omega) (Up.here ⟨rfl, by omega, ?_, g, hg, hs, done fun x hx => (by omega)⟩)
          simp (disch := first | omega | assumption | (simp only [tab_len, List.length_cons, List.length_append, List.length_set, List.length_nil, List.length_replicate, List.length_map, one_int, one_bool, one_slice, one_upd, one_lay, one_if, one_c, one_by8, one_row, one_sq, one_grp, nums_len, one_alg, one_num] <;> omega)) only [go_sem, ↓reduceIte, Nat.reduceEqDiff, Int.reduceAdd, Int.reduceSub]
    · simp (disch := first | omega | assumption | (simp only [tab_len, List.length_cons, List.length_append, List.length_set, List.length_nil, List.length_replicate, List.length_map, one_int, one_bool, one_slice, one_upd, one_lay, one_if, one_c, one_by8, one_row, one_sq, one_grp, nums_len, one_alg, one_num] <;> omega)) only [go_sem, ↓reduceIte, Nat.reduceEqDiff, Int.reduceAdd, Int.reduceSub, e0]
      refine up_edits (v := .tuple #[]) hg (R := fun v e => ∃ g, Same n f g ∧ Asc n g ∧ e = ⟨2, tab n (numF g), t⟩) ⟨g, hs, fun x y h2 h3 => ha x y h2 (by omega) h3, rfl⟩ rfl
end Go.Proofs.Ytbenllhoofoahaa

