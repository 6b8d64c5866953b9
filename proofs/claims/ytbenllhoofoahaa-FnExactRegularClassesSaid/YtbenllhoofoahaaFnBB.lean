/- RegularClasses, both ways. -/
import Derived.Test.YtbenllhoofoahaaFnAA
namespace Go.Proofs.Ytbenllhoofoahaa
set_option linter.unusedSimpArgs false
set_option linter.unusedVariables false
set_option maxRecDepth 4000
open Go Go.Vc
theorem tab_facts {p : Int} {G : Grp} {L : List (List Int)} (h : tabCode p G L = 0) : code p G = 0 ∧ Sq L G.n.toNat p := by
  unfold tabCode at h
  by_cases hc : code p G = 0
  · rw [if_pos hc] at h
    by_cases hS : dec (Sq L G.n.toNat p) = true
    · exact ⟨hc, dec_iff.1 hS⟩
    · rw [if_neg hS] at h; omega
  · rw [if_neg hc] at h; exact (hc h).elim
noncomputable def twCode (p : Int) (G : Grp) (L : List (List Int)) : Int := if tabCode p G L = 0 then (if dec (Coc L G.n.toNat G p) = true then 0 else 2) else tabCode p G L
theorem fn_isCocycle (κ : Mem) (p : Int) (G : Grp) (v : Value) (L : List (List Int)) (hv : Tbl κ v L) : Gives Try.prog 52 [i64 p, .agg (tab 37 (grpF G)).toArray, v] κ
    (.tuple #[.bool (decide (tabCode p G L = 0) && dec (Coc L G.n.toNat G p)), i64 (tabCode p G L)]) := by
  refine gives_of (rs := [.tmp 6, .tmp 7]) mixed Try.func52 rfl ok52 (by kernel_rfl) (by show 3 ≤ _; decide) rfl ?_
  simp (disch := first | omega | assumption | (simp only [tab_len, List.length_cons, List.length_append, List.length_set, List.length_nil, List.length_replicate, List.length_map, one_int, one_bool, one_slice, one_upd, one_lay, one_if, one_c, one_by8, one_row, one_sq, one_grp, nums_len, one_alg, one_num, one_boolF, one_pair, one_zP] <;> omega) | fail) only [go_sem, eq_self, ↓reduceIte, Nat.reduceEqDiff, Int.reduceAdd, Int.reduceSub]
  refine anew_intro fun g g1 g2 g3 => ?_
  have g0 := g1
  try simp only [upd_none] at g0
  simp (disch := first | omega | assumption | (simp only [tab_len, List.length_cons, List.length_append, List.length_set, List.length_nil, List.length_replicate, List.length_map, one_int, one_bool, one_slice, one_upd, one_lay, one_if, one_c, one_by8, one_row, one_sq, one_grp, nums_len, one_alg, one_num, one_boolF, one_pair, one_zP] <;> omega) | fail) only [go_sem, eq_self, ↓reduceIte, Nat.reduceEqDiff, Int.reduceAdd, Int.reduceSub]
  have hv' := hv.mono ((le_all (Apart.none (κ := κ))).trans (all_new (e := some ⟨35, tab 37 (grpF G), (tab 37 (grpF G)).length⟩) g1 g2 g3))
  refine callB_gives (fn_tabled _ p G v L hv') ?_
  simp (disch := first | omega | assumption | (simp only [tab_len, List.length_cons, List.length_append, List.length_set, List.length_nil, List.length_replicate, List.length_map, one_int, one_bool, one_slice, one_upd, one_lay, one_if, one_c, one_by8, one_row, one_sq, one_grp, nums_len, one_alg, one_num, one_boolF, one_pair, one_zP] <;> omega) | fail) only [go_sem, eq_self, ↓reduceIte, Nat.reduceEqDiff, Int.reduceAdd, Int.reduceSub]
  refine ifB_ndec (fun hc => ?_) (fun hc => ?_)
  · simp (disch := first | omega | assumption | (simp only [tab_len, List.length_cons, List.length_append, List.length_set, List.length_nil, List.length_replicate, List.length_map, one_int, one_bool, one_slice, one_upd, one_lay, one_if, one_c, one_by8, one_row, one_sq, one_grp, nums_len, one_alg, one_num, one_boolF, one_pair, one_zP] <;> omega) | fail) only [go_sem, eq_self, ↓reduceIte, Nat.reduceEqDiff, Int.reduceAdd, Int.reduceSub]
    refine up_plain ?_ (fun _ => rfl) rfl
    simp [hc]
  · obtain ⟨hc1, hS⟩ := tab_facts hc
    obtain ⟨n, hn, hg, hp⟩ := code_facts hc1
    rw [hn] at hS ⊢
    simp (disch := first | omega | assumption | (simp only [tab_len, List.length_cons, List.length_append, List.length_set, List.length_nil, List.length_replicate, List.length_map, one_int, one_bool, one_slice, one_upd, one_lay, one_if, one_c, one_by8, one_row, one_sq, one_grp, nums_len, one_alg, one_num, one_boolF, one_pair, one_zP] <;> omega) | fail) only [go_sem, eq_self, ↓reduceIte, Nat.reduceEqDiff, Int.reduceAdd, Int.reduceSub]
    refine callB_gives (fn_cocycle _ p G n g v L hp hn hg (has_own (by rw [has_same]; exact ⟨rfl, rfl⟩)) hv' hS) ?_
    simp (disch := first | omega | assumption | (simp only [tab_len, List.length_cons, List.length_append, List.length_set, List.length_nil, List.length_replicate, List.length_map, one_int, one_bool, one_slice, one_upd, one_lay, one_if, one_c, one_by8, one_row, one_sq, one_grp, nums_len, one_alg, one_num, one_boolF, one_pair, one_zP] <;> omega) | fail) only [go_sem, eq_self, ↓reduceIte, Nat.reduceEqDiff, Int.reduceAdd, Int.reduceSub]
    refine up_plain ?_ (fun _ => rfl) rfl
    simp [hc]
theorem fn_twisting (κ : Mem) (p : Int) (G : Grp) (v : Value) (L : List (List Int)) (hv : Tbl κ v L) : Gives Try.prog 32 [i64 p, .agg (tab 37 (grpF G)).toArray, v] κ (i64 (twCode p G L)) := by
  refine gives_of (rs := [.tmp 6]) mixed Try.func32 rfl ok32 (by kernel_rfl) (by show 3 ≤ _; decide) rfl ?_
  simp (disch := first | omega | assumption | (simp only [tab_len, List.length_cons, List.length_append, List.length_set, List.length_nil, List.length_replicate, List.length_map, one_int, one_bool, one_slice, one_upd, one_lay, one_if, one_c, one_by8, one_row, one_sq, one_grp, nums_len, one_alg, one_num, one_boolF, one_pair, one_zP] <;> omega) | fail) only [go_sem, eq_self, ↓reduceIte, Nat.reduceEqDiff, Int.reduceAdd, Int.reduceSub]
  refine anew_intro fun g g1 g2 g3 => ?_
  have g0 := g1
  try simp only [upd_none] at g0
  simp (disch := first | omega | assumption | (simp only [tab_len, List.length_cons, List.length_append, List.length_set, List.length_nil, List.length_replicate, List.length_map, one_int, one_bool, one_slice, one_upd, one_lay, one_if, one_c, one_by8, one_row, one_sq, one_grp, nums_len, one_alg, one_num, one_boolF, one_pair, one_zP] <;> omega) | fail) only [go_sem, eq_self, ↓reduceIte, Nat.reduceEqDiff, Int.reduceAdd, Int.reduceSub]
  have hv' := hv.mono ((le_all (Apart.none (κ := κ))).trans (all_new (e := some ⟨35, tab 37 (grpF G), (tab 37 (grpF G)).length⟩) g1 g2 g3))
  refine callB_gives (fn_isCocycle _ p G v L hv') ?_
  simp (disch := first | omega | assumption | (simp only [tab_len, List.length_cons, List.length_append, List.length_set, List.length_nil, List.length_replicate, List.length_map, one_int, one_bool, one_slice, one_upd, one_lay, one_if, one_c, one_by8, one_row, one_sq, one_grp, nums_len, one_alg, one_num, one_boolF, one_pair, one_zP] <;> omega) | fail) only [go_sem, eq_self, ↓reduceIte, Nat.reduceEqDiff, Int.reduceAdd, Int.reduceSub, tup0, tup1]
  by_cases hc : tabCode p G L = 0
  · simp (disch := first | omega | assumption | (simp only [tab_len, List.length_cons, List.length_append, List.length_set, List.length_nil, List.length_replicate, List.length_map, one_int, one_bool, one_slice, one_upd, one_lay, one_if, one_c, one_by8, one_row, one_sq, one_grp, nums_len, one_alg, one_num, one_boolF, one_pair, one_zP] <;> omega) | fail) only [go_sem, eq_self, ↓reduceIte, Nat.reduceEqDiff, Int.reduceAdd, Int.reduceSub, hc]
    cases hC : dec (Coc L G.n.toNat G p)
    · simp (disch := first | omega | assumption | (simp only [tab_len, List.length_cons, List.length_append, List.length_set, List.length_nil, List.length_replicate, List.length_map, one_int, one_bool, one_slice, one_upd, one_lay, one_if, one_c, one_by8, one_row, one_sq, one_grp, nums_len, one_alg, one_num, one_boolF, one_pair, one_zP] <;> omega) | fail) only [go_sem, eq_self, ↓reduceIte, Nat.reduceEqDiff, Int.reduceAdd, Int.reduceSub, hc, Bool.and_false]
      refine up_plain ?_ (fun _ => rfl) rfl
      unfold twCode; rw [if_pos hc, hC]; rfl
    · simp (disch := first | omega | assumption | (simp only [tab_len, List.length_cons, List.length_append, List.length_set, List.length_nil, List.length_replicate, List.length_map, one_int, one_bool, one_slice, one_upd, one_lay, one_if, one_c, one_by8, one_row, one_sq, one_grp, nums_len, one_alg, one_num, one_boolF, one_pair, one_zP] <;> omega) | fail) only [go_sem, eq_self, ↓reduceIte, Nat.reduceEqDiff, Int.reduceAdd, Int.reduceSub, hc, Bool.and_true]
      refine up_plain ?_ (fun _ => rfl) rfl
      unfold twCode; rw [if_pos hc, hC]; rfl
  · simp (disch := first | omega | assumption | (simp only [tab_len, List.length_cons, List.length_append, List.length_set, List.length_nil, List.length_replicate, List.length_map, one_int, one_bool, one_slice, one_upd, one_lay, one_if, one_c, one_by8, one_row, one_sq, one_grp, nums_len, one_alg, one_num, one_boolF, one_pair, one_zP] <;> omega) | fail) only [go_sem, eq_self, ↓reduceIte, Nat.reduceEqDiff, Int.reduceAdd, Int.reduceSub, hc]
    refine up_plain ?_ (fun _ => rfl) rfl
    unfold twCode; rw [if_neg hc]
theorem sp_twist (κ : Mem) (p : Int) (G : Grp) (v : Value) (L : List (List Int)) (hv : Tbl κ v L) : Gives Try.prog 29 [i64 p, .agg (tab 37 (grpF G)).toArray, v] κ (i64 (twCode p G L)) := by
  refine gives_of (rs := [.tmp 6]) mixed Try.func29 rfl ok29 (by kernel_rfl) (by show 3 ≤ _; decide) rfl ?_
  simp (disch := first | omega | assumption | (simp only [tab_len, List.length_cons, List.length_append, List.length_set, List.length_nil, List.length_replicate, List.length_map, one_int, one_bool, one_slice, one_upd, one_lay, one_if, one_c, one_by8, one_row, one_sq, one_grp, nums_len, one_alg, one_num, one_boolF, one_pair, one_zP] <;> omega) | fail) only [go_sem, eq_self, ↓reduceIte, Nat.reduceEqDiff, Int.reduceAdd, Int.reduceSub]
  refine anew_intro fun g g1 g2 g3 => ?_
  have g0 := g1
  try simp only [upd_none] at g0
  simp (disch := first | omega | assumption | (simp only [tab_len, List.length_cons, List.length_append, List.length_set, List.length_nil, List.length_replicate, List.length_map, one_int, one_bool, one_slice, one_upd, one_lay, one_if, one_c, one_by8, one_row, one_sq, one_grp, nums_len, one_alg, one_num, one_boolF, one_pair, one_zP] <;> omega) | fail) only [go_sem, eq_self, ↓reduceIte, Nat.reduceEqDiff, Int.reduceAdd, Int.reduceSub]
  have hv' := hv.mono ((le_all (Apart.none (κ := κ))).trans (all_new (e := some ⟨35, tab 37 (grpF G), (tab 37 (grpF G)).length⟩) g1 g2 g3))
  refine callB_gives (sp_table _ p G v L hv') ?_
  simp (disch := first | omega | assumption | (simp only [tab_len, List.length_cons, List.length_append, List.length_set, List.length_nil, List.length_replicate, List.length_map, one_int, one_bool, one_slice, one_upd, one_lay, one_if, one_c, one_by8, one_row, one_sq, one_grp, nums_len, one_alg, one_num, one_boolF, one_pair, one_zP] <;> omega) | fail) only [go_sem, eq_self, ↓reduceIte, Nat.reduceEqDiff, Int.reduceAdd, Int.reduceSub]
  by_cases hc : tabCode p G L = 0
  · obtain ⟨hc1, hS⟩ := tab_facts hc
    obtain ⟨n, hn, hg, hp⟩ := code_facts hc1
    have hnn : G.n.toNat = n := by omega
    rw [hnn] at hS
    simp (disch := first | omega | assumption | (simp only [tab_len, List.length_cons, List.length_append, List.length_set, List.length_nil, List.length_replicate, List.length_map, one_int, one_bool, one_slice, one_upd, one_lay, one_if, one_c, one_by8, one_row, one_sq, one_grp, nums_len, one_alg, one_num, one_boolF, one_pair, one_zP] <;> omega) | fail) only [go_sem, eq_self, ↓reduceIte, Nat.reduceEqDiff, Int.reduceAdd, Int.reduceSub, hc]
    refine callB_gives (sp_cocycle _ p G n v L hp hn hg hv' hS) ?_
    cases hC : dec (Coc L n G p)
    · simp (disch := first | omega | assumption | (simp only [tab_len, List.length_cons, List.length_append, List.length_set, List.length_nil, List.length_replicate, List.length_map, one_int, one_bool, one_slice, one_upd, one_lay, one_if, one_c, one_by8, one_row, one_sq, one_grp, nums_len, one_alg, one_num, one_boolF, one_pair, one_zP] <;> omega) | fail) only [go_sem, eq_self, ↓reduceIte, Nat.reduceEqDiff, Int.reduceAdd, Int.reduceSub, hc]
      refine up_plain ?_ (fun _ => rfl) rfl
      unfold twCode; rw [if_pos hc, hnn, hC]; rfl
    · simp (disch := first | omega | assumption | (simp only [tab_len, List.length_cons, List.length_append, List.length_set, List.length_nil, List.length_replicate, List.length_map, one_int, one_bool, one_slice, one_upd, one_lay, one_if, one_c, one_by8, one_row, one_sq, one_grp, nums_len, one_alg, one_num, one_boolF, one_pair, one_zP] <;> omega) | fail) only [go_sem, eq_self, ↓reduceIte, Nat.reduceEqDiff, Int.reduceAdd, Int.reduceSub, hc]
      refine up_plain ?_ (fun _ => rfl) rfl
      unfold twCode; rw [if_pos hc, hnn, hC]; rfl
  · simp (disch := first | omega | assumption | (simp only [tab_len, List.length_cons, List.length_append, List.length_set, List.length_nil, List.length_replicate, List.length_map, one_int, one_bool, one_slice, one_upd, one_lay, one_if, one_c, one_by8, one_row, one_sq, one_grp, nums_len, one_alg, one_num, one_boolF, one_pair, one_zP] <;> omega) | fail) only [go_sem, eq_self, ↓reduceIte, Nat.reduceEqDiff, Int.reduceAdd, Int.reduceSub, hc]
    refine up_plain ?_ (fun _ => rfl) rfl
    unfold twCode; rw [if_neg hc]
theorem tw_facts {p : Int} {G : Grp} {L : List (List Int)} (h : twCode p G L = 0) : ∃ n : Nat, G.n = n ∧ IsG G n ∧ (2 ≤ p ∧ p ≤ 13) ∧ Sq L n p := by
  unfold twCode at h
  by_cases hc : tabCode p G L = 0
  · obtain ⟨hc1, hS⟩ := tab_facts hc
    obtain ⟨n, hn, hg, hp⟩ := code_facts hc1
    refine ⟨n, hn, hg, hp, ?_⟩
    rw [hn] at hS; exact hS
  · rw [if_neg hc] at h; exact (hc h).elim
end Go.Proofs.Ytbenllhoofoahaa

