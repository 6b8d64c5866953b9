/- slices.Compact of a list in order. -/
import Derived.Test.YtbenllhoofoahaaFnG
namespace Go.Proofs.Ytbenllhoofoahaa
set_option linter.unusedSimpArgs false
set_option linter.unusedVariables false
set_option maxRecDepth 4000
open Go Go.Vc
def StrictAsc (n : Nat) (g : Nat → Int) : Prop := ∀ x y, x < y → y < n → g x < g y
/-- The first m numbers of h are those of f, each once, in order. -/
def Comp (n : Nat) (f : Nat → Int) (m : Nat) (g : Nat → Int) : Prop := StrictAsc m g ∧ ∀ v, (∃ i < m, g i = v) ↔ (∃ i < n, f i = v)
def Compacted (n : Nat) (f : Nat → Int) (b c t : Nat) (v : Value) (e : Ent) : Prop :=
  ∃ m h g, m ≤ n ∧ v = .slice (some ⟨b, 0, none⟩) m c ∧ e = ⟨2, tab n h, t⟩ ∧ (∀ i < m, h i = i64 (g i)) ∧ Comp n f m g
theorem fn_compact (κ : Mem) (b c t n : Nat) (f : Nat → Int) (hn : n ≤ 1000) (hc : n ≤ c) (ha : Asc n f) :
    Edits Try.prog 60 [.slice (some ⟨b, 0, none⟩) n c] κ b ⟨2, tab n (numF f), t⟩ (fun v e => Compacted n f b c t v e) := by
  refine edits_of (rs := [.tmp 2]) mixed Try.func60 rfl ok60 (by kernel_rfl) (by show 1 ≤ _; decide) rfl ?_
  simp (disch := first | omega | assumption | (simp only [tab_len, List.length_cons, List.length_append, List.length_set, List.length_nil, List.length_replicate, List.length_map, one_int, one_bool, one_slice, one_upd, one_lay, one_if, one_c, one_by8, one_row, one_sq, one_grp, nums_len, one_alg, one_num] <;> omega)) only [go_sem, ↓reduceIte, Nat.reduceEqDiff, Int.reduceAdd, Int.reduceSub]
  refine ifB_dec (fun h => ?_) (fun h => ?_)
  · simp (disch := first | omega | assumption | (simp only [tab_len, List.length_cons, List.length_append, List.length_set, List.length_nil, List.length_replicate, List.length_map, one_int, one_bool, one_slice, one_upd, one_lay, one_if, one_c, one_by8, one_row, one_sq, one_grp, nums_len, one_alg, one_num] <;> omega)) only [go_sem, ↓reduceIte, Nat.reduceEqDiff, Int.reduceAdd, Int.reduceSub]
    refine up_edits (v := .slice (some ⟨b, 0, none⟩) n c) (R := fun v e => Compacted n f b c t v e) (upd_same ..) ⟨n, numF f, f, Nat.le_refl _, rfl, rfl, fun i _ => rfl, fun x y h1 h2 => by omega, fun v => Iff.rfl⟩ rfl
  · simp (disch := first | omega | assumption | (simp only [tab_len, List.length_cons, List.length_append, List.length_set, List.length_nil, List.length_replicate, List.length_map, one_int, one_bool, one_slice, one_upd, one_lay, one_if, one_c, one_by8, one_row, one_sq, one_grp, nums_len, one_alg, one_num] <;> omega)) only [go_sem, ↓reduceIte, Nat.reduceEqDiff, Int.reduceAdd, Int.reduceSub]
    refine vc_up n 1 (fun k env M ψ => ψ = none' ∧ 1 ≤ k ∧ env 3 = .int .i64 k ∧ M b = some ⟨2, tab n (numF f), t⟩ ∧ StrictAsc k f) (by omega) ?_ ?_
    · refine ⟨rfl, by omega, ?_, upd_same .., fun x y h1 h2 => by omega⟩
      simp (disch := first | omega | assumption | (simp only [tab_len, List.length_cons, List.length_append, List.length_set, List.length_nil, List.length_replicate, List.length_map, one_int, one_bool, one_slice, one_upd, one_lay, one_if, one_c, one_by8, one_row, one_sq, one_grp, nums_len, one_alg, one_num] <;> omega)) only [go_sem, ↓reduceIte, Nat.reduceEqDiff, Int.reduceAdd, Int.reduceSub]
    · rintro k env M ψ hk hf - ap ⟨rfl, h1, e3, hM, hs⟩ K hK
      have e0 := hf 0 (by kernel_rfl)
      simp (disch := first | omega | assumption | (simp only [tab_len, List.length_cons, List.length_append, List.length_set, List.length_nil, List.length_replicate, List.length_map, one_int, one_bool, one_slice, one_upd, one_lay, one_if, one_c, one_by8, one_row, one_sq, one_grp, nums_len, one_alg, one_num] <;> omega)) only [go_sem, ↓reduceIte, Nat.reduceEqDiff, Int.reduceAdd, Int.reduceSub] at e0
      simp (disch := first | omega | assumption | (simp only [tab_len, List.length_cons, List.length_append, List.length_set, List.length_nil, List.length_replicate, List.length_map, one_int, one_bool, one_slice, one_upd, one_lay, one_if, one_c, one_by8, one_row, one_sq, one_grp, nums_len, one_alg, one_num] <;> omega)) only [go_sem, ↓reduceIte, Nat.reduceEqDiff, Int.reduceAdd, Int.reduceSub, e0, e3]
      refine ifB_dec (fun h2 => ?_) (fun h2 => ?_)
      · simp (disch := first | omega | assumption | (simp only [tab_len, List.length_cons, List.length_append, List.length_set, List.length_nil, List.length_replicate, List.length_map, one_int, one_bool, one_slice, one_upd, one_lay, one_if, one_c, one_by8, one_row, one_sq, one_grp, nums_len, one_alg, one_num] <;> omega)) only [go_sem, ↓reduceIte, Nat.reduceEqDiff, Int.reduceAdd, Int.reduceSub, e0, e3]
        refine run_drawn [(0, []), (1, []), (2, []), (3, []), (4, []), (5, []), (6, []), (7, []), (8, []), (9, [])] (by kernel_rfl) ?_
        obtain ⟨k, rfl⟩ : ∃ k', k = k' + 1 := ⟨k - 1, by omega⟩
        simp (disch := first | omega | assumption | (simp only [tab_len, List.length_cons, List.length_append, List.length_set, List.length_nil, List.length_replicate, List.length_map, one_int, one_bool, one_slice, one_upd, one_lay, one_if, one_c, one_by8, one_row, one_sq, one_grp, nums_len, one_alg, one_num] <;> omega)) only [go_sem, ↓reduceIte, Nat.reduceEqDiff, Int.reduceAdd, Int.reduceSub, e0, e3, hM, numF, Int.add_sub_cancel]
        refine ifB_dec (fun h3 => ?_) (fun h3 => ?_)
        · simp (disch := first | omega | assumption | (simp only [tab_len, List.length_cons, List.length_append, List.length_set, List.length_nil, List.length_replicate, List.length_map, one_int, one_bool, one_slice, one_upd, one_lay, one_if, one_c, one_by8, one_row, one_sq, one_grp, nums_len, one_alg, one_num] <;> omega)) only [go_sem, ↓reduceIte, Nat.reduceEqDiff, Int.reduceAdd, Int.reduceSub, e0, e3]
          refine vc_up (n - (k + 1)) 1 (fun j env M ψ => ψ = none' ∧ env 5 = .int .i64 j ∧ 1 ≤ j ∧ ∃ (q : Nat) (g : Nat → Int), env 3 = .int .i64 q ∧ M b = some ⟨2, tab n (numF g), t⟩ ∧ 1 ≤ q ∧ q + 1 ≤ k + 1 + j ∧
            (∀ x, k + j ≤ x → x < n → g x = f x) ∧ StrictAsc q g ∧ (∀ v, (∃ i < q, g i = v) ↔ (∃ i < k + 1 + j, f i = v)) ∧ g (q - 1) = f (k + j)) (by omega) ?_ ?_
          · refine ⟨rfl, ?_, by omega, k + 1, f, ?_, hM, by omega, by omega, fun x _ _ => rfl, hs, fun v => ?_, ?_⟩
            · simp (disch := first | omega | assumption | (simp only [tab_len, List.length_cons, List.length_append, List.length_set, List.length_nil, List.length_replicate, List.length_map, one_int, one_bool, one_slice, one_upd, one_lay, one_if, one_c, one_by8, one_row, one_sq, one_grp, nums_len, one_alg, one_num] <;> omega)) only [go_sem, ↓reduceIte, Nat.reduceEqDiff, Int.reduceAdd, Int.reduceSub]
            · simp (disch := first | omega | assumption | (simp only [tab_len, List.length_cons, List.length_append, List.length_set, List.length_nil, List.length_replicate, List.length_map, one_int, one_bool, one_slice, one_upd, one_lay, one_if, one_c, one_by8, one_row, one_sq, one_grp, nums_len, one_alg, one_num] <;> omega)) only [go_sem, ↓reduceIte, Nat.reduceEqDiff, Int.reduceAdd, Int.reduceSub, e3]
            · constructor
              · rintro ⟨i, hi, h⟩; exact ⟨i, by omega, h⟩
              · rintro ⟨i, hi, h⟩
                by_cases hik : i = k + 1
                · subst hik; exact ⟨k, by omega, by omega⟩
                · exact ⟨i, by omega, h⟩
            · show f k = f (k + 1); omega
          · rintro j env2 M ψ hj hf2 - ap2 ⟨rfl, e5, h1j, q, g, e3, hM, hq1, hq2, hgf, hsa, hset, hlast⟩ K2 hK2
            have u0 := hf2 0 (by kernel_rfl)
            have u4 := hf2 4 (by kernel_rfl)
            simp (disch := first | omega | assumption | (simp only [tab_len, List.length_cons, List.length_append, List.length_set, List.length_nil, List.length_replicate, List.length_map, one_int, one_bool, one_slice, one_upd, one_lay, one_if, one_c, one_by8, one_row, one_sq, one_grp, nums_len, one_alg, one_num] <;> omega)) only [go_sem, ↓reduceIte, Nat.reduceEqDiff, Int.reduceAdd, Int.reduceSub, e0] at u0
            simp (disch := first | omega | assumption | (simp only [tab_len, List.length_cons, List.length_append, List.length_set, List.length_nil, List.length_replicate, List.length_map, one_int, one_bool, one_slice, one_upd, one_lay, one_if, one_c, one_by8, one_row, one_sq, one_grp, nums_len, one_alg, one_num] <;> omega)) only [go_sem, ↓reduceIte, Nat.reduceEqDiff, Int.reduceAdd, Int.reduceSub, e0] at u4
            simp (disch := first | omega | assumption | (simp only [tab_len, List.length_cons, List.length_append, List.length_set, List.length_nil, List.length_replicate, List.length_map, one_int, one_bool, one_slice, one_upd, one_lay, one_if, one_c, one_by8, one_row, one_sq, one_grp, nums_len, one_alg, one_num] <;> omega)) only [go_sem, ↓reduceIte, Nat.reduceEqDiff, Int.reduceAdd, Int.reduceSub, u4, e5]
            refine ifB_dec (fun h4 => ?_) (fun h4 => ?_)
            · simp (disch := first | omega | assumption | (simp only [tab_len, List.length_cons, List.length_append, List.length_set, List.length_nil, List.length_replicate, List.length_map, one_int, one_bool, one_slice, one_upd, one_lay, one_if, one_c, one_by8, one_row, one_sq, one_grp, nums_len, one_alg, one_num] <;> omega)) only [go_sem, ↓reduceIte, Nat.reduceEqDiff, Int.reduceAdd, Int.reduceSub, u4, e5]
              refine run_drawn [(0, []), (1, []), (2, []), (3, []), (4, []), (5, []), (6, []), (7, []), (8, []), (9, [])] (by kernel_rfl) ?_
              obtain ⟨j, rfl⟩ : ∃ j', j = j' + 1 := ⟨j - 1, by omega⟩
              simp (disch := first | omega | assumption | (simp only [tab_len, List.length_cons, List.length_append, List.length_set, List.length_nil, List.length_replicate, List.length_map, one_int, one_bool, one_slice, one_upd, one_lay, one_if, one_c, one_by8, one_row, one_sq, one_grp, nums_len, one_alg, one_num] <;> omega)) only [go_sem, ↓reduceIte, Nat.reduceEqDiff, Int.reduceAdd, Int.reduceSub, u4, e5, hM, numF, Int.add_sub_cancel]
              have g1 : g (k + 1 + (j + 1)) = f (k + 1 + (j + 1)) := hgf _ (by omega) (by omega)
              have g2 : g (k + 1 + j) = f (k + 1 + j) := hgf _ (by omega) (by omega)
              refine ifB_ndec (fun h5 => ?_) (fun h5 => ?_)
              · have hlt : g (q - 1) < f (k + 1 + (j + 1)) := by
                  have e1 := ha (k + 1 + j) (k + 1 + (j + 1)) (by omega) (by omega)
                  rw [hlast, show k + (j + 1) = k + 1 + j by omega]; omega
                simp (disch := first | omega | assumption | (simp only [tab_len, List.length_cons, List.length_append, List.length_set, List.length_nil, List.length_replicate, List.length_map, one_int, one_bool, one_slice, one_upd, one_lay, one_if, one_c, one_by8, one_row, one_sq, one_grp, nums_len, one_alg, one_num] <;> omega)) only [go_sem, ↓reduceIte, Nat.reduceEqDiff, Int.reduceAdd, Int.reduceSub, u0, u4, e3, e5, hM, numF, num_upd]
                refine hK2 _ _ _ (by omega) (Up.here ⟨rfl, ?_, by omega, q + 1, upd g q (g (k + 1 + (j + 1))), ?_, upd_same .., by omega, by omega, fun x h6 h7 => ?_, fun x y h6 h7 => ?_, fun v => ?_, ?_⟩)
                · simp (disch := first | omega | assumption | (simp only [tab_len, List.length_cons, List.length_append, List.length_set, List.length_nil, List.length_replicate, List.length_map, one_int, one_bool, one_slice, one_upd, one_lay, one_if, one_c, one_by8, one_row, one_sq, one_grp, nums_len, one_alg, one_num] <;> omega)) only [go_sem, ↓reduceIte, Nat.reduceEqDiff, Int.reduceAdd, Int.reduceSub]
                · simp (disch := first | omega | assumption | (simp only [tab_len, List.length_cons, List.length_append, List.length_set, List.length_nil, List.length_replicate, List.length_map, one_int, one_bool, one_slice, one_upd, one_lay, one_if, one_c, one_by8, one_row, one_sq, one_grp, nums_len, one_alg, one_num] <;> omega)) only [go_sem, ↓reduceIte, Nat.reduceEqDiff, Int.reduceAdd, Int.reduceSub]
                · rw [upd_ne (by omega)]; exact hgf x (by omega) h7
                · by_cases hy : y = q
                  · subst hy; rw [upd_same, upd_ne (by omega), g1]
                    by_cases hx : x = y - 1
                    · rw [hx]; exact hlt
                    · have := hsa x (y - 1) (by omega) (by omega); omega
                  · rw [upd_ne (by omega), upd_ne hy]; exact hsa x y h6 (by omega)
                · constructor
                  · rintro ⟨i, hi, h⟩
                    by_cases hiq : i = q
                    · subst hiq; rw [upd_same] at h; exact ⟨k + 1 + (j + 1), by omega, by omega⟩
                    · rw [upd_ne hiq] at h
                      obtain ⟨i', hi', h'⟩ := (hset v).1 ⟨i, by omega, h⟩
                      exact ⟨i', by omega, h'⟩
                  · rintro ⟨i, hi, h⟩
                    by_cases hik : i = k + 1 + (j + 1)
                    · subst hik; exact ⟨q, by omega, by rw [upd_same]; omega⟩
                    · obtain ⟨i', hi', h'⟩ := (hset v).2 ⟨i, by omega, h⟩
                      exact ⟨i', by omega, by rw [upd_ne (by omega)]; exact h'⟩
                · rw [show q + 1 - 1 = q by omega, upd_same, g1]; congr 1; omega
              · simp (disch := first | omega | assumption | (simp only [tab_len, List.length_cons, List.length_append, List.length_set, List.length_nil, List.length_replicate, List.length_map, one_int, one_bool, one_slice, one_upd, one_lay, one_if, one_c, one_by8, one_row, one_sq, one_grp, nums_len, one_alg, one_num] <;> omega)) only [go_sem, ↓reduceIte, Nat.reduceEqDiff, Int.reduceAdd, Int.reduceSub, e5]
                refine hK2 _ _ _ (by omega) (Up.here ⟨rfl, ?_, by omega, q, g, ?_, hM, hq1, by omega, fun x h6 h7 => hgf x (by omega) h7, hsa, fun v => ?_, ?_⟩)
                · simp (disch := first | omega | assumption | (simp only [tab_len, List.length_cons, List.length_append, List.length_set, List.length_nil, List.length_replicate, List.length_map, one_int, one_bool, one_slice, one_upd, one_lay, one_if, one_c, one_by8, one_row, one_sq, one_grp, nums_len, one_alg, one_num] <;> omega)) only [go_sem, ↓reduceIte, Nat.reduceEqDiff, Int.reduceAdd, Int.reduceSub]
                · simp (disch := first | omega | assumption | (simp only [tab_len, List.length_cons, List.length_append, List.length_set, List.length_nil, List.length_replicate, List.length_map, one_int, one_bool, one_slice, one_upd, one_lay, one_if, one_c, one_by8, one_row, one_sq, one_grp, nums_len, one_alg, one_num] <;> omega)) only [go_sem, ↓reduceIte, Nat.reduceEqDiff, Int.reduceAdd, Int.reduceSub, e3]
                · rw [hset v]
                  constructor
                  · rintro ⟨i, hi, h⟩; exact ⟨i, by omega, h⟩
                  · rintro ⟨i, hi, h⟩
                    by_cases hik : i = k + 1 + (j + 1)
                    · subst hik; exact ⟨k + 1 + j, by omega, by omega⟩
                    · exact ⟨i, by omega, h⟩
                · rw [hlast, show k + (j + 1) = k + 1 + j by omega, ← g2, ← h5, g1]
                  congr 1; omega
            · have hjn : k + 1 + j = n := by omega
              simp (disch := first | omega | assumption | (simp only [tab_len, List.length_cons, List.length_append, List.length_set, List.length_nil, List.length_replicate, List.length_map, one_int, one_bool, one_slice, one_upd, one_lay, one_if, one_c, one_by8, one_row, one_sq, one_grp, nums_len, one_alg, one_num] <;> omega)) only [go_sem, ↓reduceIte, Nat.reduceEqDiff, Int.reduceAdd, Int.reduceSub, u0, u4, e3, e5]
              rw [clearV_one Try.underlying41 z2 rfl hM (by omega)]
              simp (disch := first | omega | assumption | (simp only [tab_len, List.length_cons, List.length_append, List.length_set, List.length_nil, List.length_replicate, List.length_map, one_int, one_bool, one_slice, one_upd, one_lay, one_if, one_c, one_by8, one_row, one_sq, one_grp, nums_len, one_alg, one_num] <;> omega)) only [go_sem, ↓reduceIte, Nat.reduceEqDiff, Int.reduceAdd, Int.reduceSub, u0, e3]
              refine up_edits (v := .slice (some ⟨b, 0, none⟩) q c) (R := fun v e => Compacted n f b c t v e) (upd_same ..) ⟨q, _, g, by omega, rfl, rfl, fun i hi => lay_out (by omega), hsa, fun v => ?_⟩ rfl
              rw [hset v, hjn]
        · simp (disch := first | omega | assumption | (simp only [tab_len, List.length_cons, List.length_append, List.length_set, List.length_nil, List.length_replicate, List.length_map, one_int, one_bool, one_slice, one_upd, one_lay, one_if, one_c, one_by8, one_row, one_sq, one_grp, nums_len, one_alg, one_num] <;> omega)) only [go_sem, ↓reduceIte, Nat.reduceEqDiff, Int.reduceAdd, Int.reduceSub, e3]
          refine hK _ _ _ (by omega) (Up.here ⟨rfl, by omega, ?_, hM, fun x y h4 h5 => ?_⟩)
          · simp (disch := first | omega | assumption | (simp only [tab_len, List.length_cons, List.length_append, List.length_set, List.length_nil, List.length_replicate, List.length_map, one_int, one_bool, one_slice, one_upd, one_lay, one_if, one_c, one_by8, one_row, one_sq, one_grp, nums_len, one_alg, one_num] <;> omega)) only [go_sem, ↓reduceIte, Nat.reduceEqDiff, Int.reduceAdd, Int.reduceSub]
          · by_cases hy : y = k + 1
            · subst hy
              have e1 := ha k (k + 1) (by omega) (by omega)
              by_cases hx : x = k
              · subst hx; omega
              · have := hs x k (by omega) (by omega); omega
            · exact hs x y h4 (by omega)
      · simp (disch := first | omega | assumption | (simp only [tab_len, List.length_cons, List.length_append, List.length_set, List.length_nil, List.length_replicate, List.length_map, one_int, one_bool, one_slice, one_upd, one_lay, one_if, one_c, one_by8, one_row, one_sq, one_grp, nums_len, one_alg, one_num] <;> omega)) only [go_sem, ↓reduceIte, Nat.reduceEqDiff, Int.reduceAdd, Int.reduceSub, e0]
        have : k = n := by omega
        subst this
        refine up_edits (v := .slice (some ⟨b, 0, none⟩) k c) (R := fun v e => Compacted k f b c t v e) hM ⟨k, numF f, f, Nat.le_refl _, rfl, rfl, fun i _ => rfl, hs, fun v => Iff.rfl⟩ rfl
end Go.Proofs.Ytbenllhoofoahaa

