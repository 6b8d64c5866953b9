/- Tables of numbers: cocycles. -/
import Derived.Test.YtbenllhoofoahaaFnY
namespace Go.Proofs.Ytbenllhoofoahaa
set_option linter.unusedSimpArgs false
set_option linter.unusedVariables false
set_option maxRecDepth 4000
open Go Go.Vc
theorem sq_open {A : Mem} {v : Value} {L : List (List Int)} {n : Nat} {p : Int} (h : Tbl A v L) (hS : Sq L n p) (hn : 0 < n) : ∃ (b o c T t : Nat) (cs : List Value) (B O C TT TS : Nat → Nat) (CS : Nat → List Value),
    v = .slice (some ⟨b, o, none⟩) n c ∧ A b = some ⟨T, cs, t⟩ ∧ (∀ i, i < n → cs[o + i]? = some (.slice (some ⟨B i, O i, none⟩) n (C i))) ∧ (∀ i, i < n → A (B i) = some ⟨TT i, CS i, TS i⟩) ∧ ∀ i j, i < n → j < n → (CS i)[O i + j]? = some (i64 (ent L i j)) := by
  obtain ⟨q, c, rfl, h1, h2, h3⟩ := h
  obtain ⟨hl, hS⟩ := hS
  rw [hl] at h3 ⊢
  obtain ⟨b, o, T, cs, t, u, rfl, hA, -, -⟩ := h3 0 hn
  have h4 : ∀ i, ∃ (B O C TT TS : Nat) (CS : List Value), i < n → cs[o + i]? = some (.slice (some ⟨B, O, none⟩) n C) ∧ A B = some ⟨TT, CS, TS⟩ ∧ ∀ j, j < n → CS[O + j]? = some (i64 (ent L i j)) := fun i => by
    by_cases hi : i < n
    · obtain ⟨b', o', T', cs', t', u, e, hA', hc, hu⟩ := h3 i hi
      simp only [Option.some.injEq, Addr.mk.injEq, and_true] at e
      obtain ⟨rfl, rfl⟩ := e
      rw [hA] at hA'
      simp only [Option.some.injEq, Ent.mk.injEq] at hA'
      obtain ⟨rfl, rfl, rfl⟩ := hA'
      obtain ⟨q2, c2, rfl, k1, k2, k3⟩ := hu
      rw [(hS i hi).1] at hc k3
      obtain ⟨B, O, TT, CS, TS, _, rfl, hB, -, -⟩ := k3 0 hn
      refine ⟨B, O, c2, TT, TS, CS, fun _ => ⟨hc, hB, fun j hj => ?_⟩⟩
      obtain ⟨B', O', TT', CS', TS', u', e', hB', hc', rfl⟩ := k3 j hj
      simp only [Option.some.injEq, Addr.mk.injEq, and_true] at e'
      obtain ⟨rfl, rfl⟩ := e'
      rw [hB] at hB'
      simp only [Option.some.injEq, Ent.mk.injEq] at hB'
      obtain ⟨rfl, rfl, rfl⟩ := hB'
      exact hc'
    · exact ⟨0, 0, 0, 0, 0, [], fun h => (hi h).elim⟩
  let B := fun i => Classical.choose (h4 i)
  have g1 := fun i => Classical.choose_spec (h4 i)
  let O := fun i => Classical.choose (g1 i)
  have g2 := fun i => Classical.choose_spec (g1 i)
  let C := fun i => Classical.choose (g2 i)
  have g3 := fun i => Classical.choose_spec (g2 i)
  let TT := fun i => Classical.choose (g3 i)
  have g4 := fun i => Classical.choose_spec (g3 i)
  let TS := fun i => Classical.choose (g4 i)
  have g5 := fun i => Classical.choose_spec (g4 i)
  let CS := fun i => Classical.choose (g5 i)
  have g6 := fun i => Classical.choose_spec (g5 i)
  exact ⟨b, o, c, T, t, cs, B, O, C, TT, TS, CS, rfl, hA, fun i hi => (g6 i hi).1, fun i hi => (g6 i hi).2.1, fun i j hi hj => (g6 i hi).2.2 j hj⟩
theorem sp_table (κ : Mem) (p : Int) (G : Grp) (v : Value) (L : List (List Int)) (hv : Tbl κ v L) : Gives Try.prog 48 [i64 p, .agg (tab 37 (grpF G)).toArray, v] κ (i64 (tabCode p G L)) := by
  obtain ⟨q, c, rfl, hlc, hcm, hC⟩ := hv
  have hml := maxLen_lt
  refine gives_of (rs := [.tmp 6]) mixed Try.func48 rfl ok48 (by kernel_rfl) (by show 3 ≤ _; decide) rfl ?_
  simp (disch := first | omega | assumption | (simp only [tab_len, List.length_cons, List.length_append, List.length_set, List.length_nil, List.length_replicate, List.length_map, one_int, one_bool, one_slice, one_upd, one_lay, one_if, one_c, one_by8, one_row, one_sq, one_grp, nums_len, one_alg, one_num, one_boolF, one_pair, one_zP] <;> omega) | fail) only [go_sem, eq_self, ↓reduceIte, Nat.reduceEqDiff, Int.reduceAdd, Int.reduceSub]
  refine anew_intro fun g g1 g2 g3 => ?_
  have g0 := g1
  try simp only [upd_none] at g0
  simp (disch := first | omega | assumption | (simp only [tab_len, List.length_cons, List.length_append, List.length_set, List.length_nil, List.length_replicate, List.length_map, one_int, one_bool, one_slice, one_upd, one_lay, one_if, one_c, one_by8, one_row, one_sq, one_grp, nums_len, one_alg, one_num, one_boolF, one_pair, one_zP] <;> omega) | fail) only [go_sem, eq_self, ↓reduceIte, Nat.reduceEqDiff, Int.reduceAdd, Int.reduceSub]
  refine callB_gives (sp_code _ p G) ?_
  simp (disch := first | omega | assumption | (simp only [tab_len, List.length_cons, List.length_append, List.length_set, List.length_nil, List.length_replicate, List.length_map, one_int, one_bool, one_slice, one_upd, one_lay, one_if, one_c, one_by8, one_row, one_sq, one_grp, nums_len, one_alg, one_num, one_boolF, one_pair, one_zP] <;> omega) | fail) only [go_sem, eq_self, ↓reduceIte, Nat.reduceEqDiff, Int.reduceAdd, Int.reduceSub]
  refine ifB_ndec (fun hc => ?_) (fun hc => ?_)
  · simp (disch := first | omega | assumption | (simp only [tab_len, List.length_cons, List.length_append, List.length_set, List.length_nil, List.length_replicate, List.length_map, one_int, one_bool, one_slice, one_upd, one_lay, one_if, one_c, one_by8, one_row, one_sq, one_grp, nums_len, one_alg, one_num, one_boolF, one_pair, one_zP] <;> omega) | fail) only [go_sem, eq_self, ↓reduceIte, Nat.reduceEqDiff, Int.reduceAdd, Int.reduceSub]
    refine up_plain ?_ (fun _ => rfl) rfl
    unfold tabCode; rw [if_neg hc]
  · obtain ⟨n, hn, hg, hp⟩ := code_facts hc
    have h6 := hg.1
    simp (disch := first | omega | assumption | (simp only [tab_len, List.length_cons, List.length_append, List.length_set, List.length_nil, List.length_replicate, List.length_map, one_int, one_bool, one_slice, one_upd, one_lay, one_if, one_c, one_by8, one_row, one_sq, one_grp, nums_len, one_alg, one_num, one_boolF, one_pair, one_zP] <;> omega) | fail) only [go_sem, eq_self, ↓reduceIte, Nat.reduceEqDiff, Int.reduceAdd, Int.reduceSub, grpF_0, hn]
    refine ifB_ndec (fun hl => ?_) (fun hl => ?_)
    · simp (disch := first | omega | assumption | (simp only [tab_len, List.length_cons, List.length_append, List.length_set, List.length_nil, List.length_replicate, List.length_map, one_int, one_bool, one_slice, one_upd, one_lay, one_if, one_c, one_by8, one_row, one_sq, one_grp, nums_len, one_alg, one_num, one_boolF, one_pair, one_zP] <;> omega) | fail) only [go_sem, eq_self, ↓reduceIte, Nat.reduceEqDiff, Int.reduceAdd, Int.reduceSub]
      refine up_plain ?_ (fun _ => rfl) rfl
      unfold tabCode; rw [if_pos hc, hn, dec_false (p := Sq L (n : Int).toNat p) fun h => hl (by have := h.1; omega)]; rfl
    · have hl' : L.length = n := by omega
      simp (disch := first | omega | assumption | (simp only [tab_len, List.length_cons, List.length_append, List.length_set, List.length_nil, List.length_replicate, List.length_map, one_int, one_bool, one_slice, one_upd, one_lay, one_if, one_c, one_by8, one_row, one_sq, one_grp, nums_len, one_alg, one_num, one_boolF, one_pair, one_zP] <;> omega) | fail) only [go_sem, eq_self, ↓reduceIte, Nat.reduceEqDiff, Int.reduceAdd, Int.reduceSub]
      refine vc_up n 0 (fun i env M ψ => ψ = none' ∧ env 8 = .int .i64 i ∧ Has M g 35 (tab 37 (grpF G)) ∧ ∀ i' < i, RowOk (L.getD i' []) n p) (by omega) ?_ ?_
      · refine ⟨rfl, ?_, ?_, fun j hj => by omega⟩
        · simp (disch := first | omega | assumption | (simp only [tab_len, List.length_cons, List.length_append, List.length_set, List.length_nil, List.length_replicate, List.length_map, one_int, one_bool, one_slice, one_upd, one_lay, one_if, one_c, one_by8, one_row, one_sq, one_grp, nums_len, one_alg, one_num, one_boolF, one_pair, one_zP] <;> omega) | fail) only [go_sem, eq_self, ↓reduceIte, Nat.reduceEqDiff, Int.reduceAdd, Int.reduceSub]
        · rw [has_same]; exact ⟨rfl, rfl⟩
      · rintro i env M ψ hi hf - ap ⟨rfl, e8, ⟨tg, hgr⟩, hok⟩ K hK
        have e0 := hf 0 (by kernel_rfl)
        have e2 := hf 2 (by kernel_rfl)
        have e4 := hf 4 (by kernel_rfl)
        simp (disch := first | omega | assumption | (simp only [tab_len, List.length_cons, List.length_append, List.length_set, List.length_nil, List.length_replicate, List.length_map, one_int, one_bool, one_slice, one_upd, one_lay, one_if, one_c, one_by8, one_row, one_sq, one_grp, nums_len, one_alg, one_num, one_boolF, one_pair, one_zP] <;> omega) | fail) only [go_sem, eq_self, ↓reduceIte, Nat.reduceEqDiff, Int.reduceAdd, Int.reduceSub] at e0
        simp (disch := first | omega | assumption | (simp only [tab_len, List.length_cons, List.length_append, List.length_set, List.length_nil, List.length_replicate, List.length_map, one_int, one_bool, one_slice, one_upd, one_lay, one_if, one_c, one_by8, one_row, one_sq, one_grp, nums_len, one_alg, one_num, one_boolF, one_pair, one_zP] <;> omega) | fail) only [go_sem, eq_self, ↓reduceIte, Nat.reduceEqDiff, Int.reduceAdd, Int.reduceSub] at e2
        simp (disch := first | omega | assumption | (simp only [tab_len, List.length_cons, List.length_append, List.length_set, List.length_nil, List.length_replicate, List.length_map, one_int, one_bool, one_slice, one_upd, one_lay, one_if, one_c, one_by8, one_row, one_sq, one_grp, nums_len, one_alg, one_num, one_boolF, one_pair, one_zP] <;> omega) | fail) only [go_sem, eq_self, ↓reduceIte, Nat.reduceEqDiff, Int.reduceAdd, Int.reduceSub] at e4
        simp (disch := first | omega | assumption | (simp only [tab_len, List.length_cons, List.length_append, List.length_set, List.length_nil, List.length_replicate, List.length_map, one_int, one_bool, one_slice, one_upd, one_lay, one_if, one_c, one_by8, one_row, one_sq, one_grp, nums_len, one_alg, one_num, one_boolF, one_pair, one_zP] <;> omega) | fail) only [go_sem, eq_self, ↓reduceIte, Nat.reduceEqDiff, Int.reduceAdd, Int.reduceSub, e2, e8]
        refine ifB_dec (fun h => ?_) (fun h => ?_)
        · obtain ⟨b, o, T, cs, tt, u, rfl, hA, hcell, hCi⟩ := hC i (by omega)
          have hap := (ap b _).1 hA
          obtain ⟨q2, c2, rfl, k1, k2, k3⟩ := hCi
          simp (disch := first | omega | assumption | (simp only [tab_len, List.length_cons, List.length_append, List.length_set, List.length_nil, List.length_replicate, List.length_map, one_int, one_bool, one_slice, one_upd, one_lay, one_if, one_c, one_by8, one_row, one_sq, one_grp, nums_len, one_alg, one_num, one_boolF, one_pair, one_zP] <;> omega) | fail) only [go_sem, eq_self, ↓reduceIte, Nat.reduceEqDiff, Int.reduceAdd, Int.reduceSub, e8]
          refine run_drawn [(0, []), (1, []), (2, []), (3, []), (4, []), (5, []), (6, []), (7, [])] (by kernel_rfl) ?_
          simp (disch := first | omega | assumption | (simp only [tab_len, List.length_cons, List.length_append, List.length_set, List.length_nil, List.length_replicate, List.length_map, one_int, one_bool, one_slice, one_upd, one_lay, one_if, one_c, one_by8, one_row, one_sq, one_grp, nums_len, one_alg, one_num, one_boolF, one_pair, one_zP] <;> omega) | fail) only [go_sem, eq_self, ↓reduceIte, Nat.reduceEqDiff, Int.reduceAdd, Int.reduceSub, e2, e4, e8, hgr, hap.1, hA, hcell, grpF_0, hn]
          refine ifB_ndec (fun hr => ?_) (fun hr => ?_)
          · simp (disch := first | omega | assumption | (simp only [tab_len, List.length_cons, List.length_append, List.length_set, List.length_nil, List.length_replicate, List.length_map, one_int, one_bool, one_slice, one_upd, one_lay, one_if, one_c, one_by8, one_row, one_sq, one_grp, nums_len, one_alg, one_num, one_boolF, one_pair, one_zP] <;> omega) | fail) only [go_sem, eq_self, ↓reduceIte, Nat.reduceEqDiff, Int.reduceAdd, Int.reduceSub]
            refine up_plain ?_ (fun _ => rfl) rfl
            unfold tabCode; rw [if_pos hc, hn, dec_false (p := Sq L (n : Int).toNat p) fun h => hr (by have := (h.2 i (by omega)).1; omega)]; rfl
          · have hr' : (L.getD i []).length = n := by omega
            rw [hr'] at k3
            simp (disch := first | omega | assumption | (simp only [tab_len, List.length_cons, List.length_append, List.length_set, List.length_nil, List.length_replicate, List.length_map, one_int, one_bool, one_slice, one_upd, one_lay, one_if, one_c, one_by8, one_row, one_sq, one_grp, nums_len, one_alg, one_num, one_boolF, one_pair, one_zP] <;> omega) | fail) only [go_sem, eq_self, ↓reduceIte, Nat.reduceEqDiff, Int.reduceAdd, Int.reduceSub]
            refine vc_up n 0 (fun j env M ψ => ψ = none' ∧ env 9 = .int .i64 j ∧ Has M g 35 (tab 37 (grpF G)) ∧ ∀ j' < j, 0 ≤ (L.getD i []).getD j' 0 ∧ (L.getD i []).getD j' 0 ≤ p - 1) (by omega) ?_ ?_
            · refine ⟨rfl, ?_, ⟨_, hgr⟩, fun j hj => by omega⟩
              simp (disch := first | omega | assumption | (simp only [tab_len, List.length_cons, List.length_append, List.length_set, List.length_nil, List.length_replicate, List.length_map, one_int, one_bool, one_slice, one_upd, one_lay, one_if, one_c, one_by8, one_row, one_sq, one_grp, nums_len, one_alg, one_num, one_boolF, one_pair, one_zP] <;> omega) | fail) only [go_sem, eq_self, ↓reduceIte, Nat.reduceEqDiff, Int.reduceAdd, Int.reduceSub]
            · rintro j env2 M ψ hj hf2 - ap2 ⟨rfl, e9, ⟨tg, hgr⟩, hok2⟩ K2 hK2
              have u0 := hf2 0 (by kernel_rfl)
              have u2 := hf2 2 (by kernel_rfl)
              have u4 := hf2 4 (by kernel_rfl)
              have u8 := hf2 8 (by kernel_rfl)
              simp (disch := first | omega | assumption | (simp only [tab_len, List.length_cons, List.length_append, List.length_set, List.length_nil, List.length_replicate, List.length_map, one_int, one_bool, one_slice, one_upd, one_lay, one_if, one_c, one_by8, one_row, one_sq, one_grp, nums_len, one_alg, one_num, one_boolF, one_pair, one_zP] <;> omega) | fail) only [go_sem, eq_self, ↓reduceIte, Nat.reduceEqDiff, Int.reduceAdd, Int.reduceSub, e0, e2, e4, e8] at u0
              simp (disch := first | omega | assumption | (simp only [tab_len, List.length_cons, List.length_append, List.length_set, List.length_nil, List.length_replicate, List.length_map, one_int, one_bool, one_slice, one_upd, one_lay, one_if, one_c, one_by8, one_row, one_sq, one_grp, nums_len, one_alg, one_num, one_boolF, one_pair, one_zP] <;> omega) | fail) only [go_sem, eq_self, ↓reduceIte, Nat.reduceEqDiff, Int.reduceAdd, Int.reduceSub, e0, e2, e4, e8] at u2
              simp (disch := first | omega | assumption | (simp only [tab_len, List.length_cons, List.length_append, List.length_set, List.length_nil, List.length_replicate, List.length_map, one_int, one_bool, one_slice, one_upd, one_lay, one_if, one_c, one_by8, one_row, one_sq, one_grp, nums_len, one_alg, one_num, one_boolF, one_pair, one_zP] <;> omega) | fail) only [go_sem, eq_self, ↓reduceIte, Nat.reduceEqDiff, Int.reduceAdd, Int.reduceSub, e0, e2, e4, e8] at u4
              simp (disch := first | omega | assumption | (simp only [tab_len, List.length_cons, List.length_append, List.length_set, List.length_nil, List.length_replicate, List.length_map, one_int, one_bool, one_slice, one_upd, one_lay, one_if, one_c, one_by8, one_row, one_sq, one_grp, nums_len, one_alg, one_num, one_boolF, one_pair, one_zP] <;> omega) | fail) only [go_sem, eq_self, ↓reduceIte, Nat.reduceEqDiff, Int.reduceAdd, Int.reduceSub, e0, e2, e4, e8] at u8
              simp (disch := first | omega | assumption | (simp only [tab_len, List.length_cons, List.length_append, List.length_set, List.length_nil, List.length_replicate, List.length_map, one_int, one_bool, one_slice, one_upd, one_lay, one_if, one_c, one_by8, one_row, one_sq, one_grp, nums_len, one_alg, one_num, one_boolF, one_pair, one_zP] <;> omega) | fail) only [go_sem, eq_self, ↓reduceIte, Nat.reduceEqDiff, Int.reduceAdd, Int.reduceSub, u2, e9]
              refine ifB_dec (fun h2 => ?_) (fun h2 => ?_)
              · have hap2 := (ap2 b _).1 hA
                obtain ⟨B, O, TT, CS, TS, u', rfl, hB, hcell2, rfl⟩ := k3 j (by omega)
                have hapB := (ap2 B _).1 hB
                simp (disch := first | omega | assumption | (simp only [tab_len, List.length_cons, List.length_append, List.length_set, List.length_nil, List.length_replicate, List.length_map, one_int, one_bool, one_slice, one_upd, one_lay, one_if, one_c, one_by8, one_row, one_sq, one_grp, nums_len, one_alg, one_num, one_boolF, one_pair, one_zP] <;> omega) | fail) only [go_sem, eq_self, ↓reduceIte, Nat.reduceEqDiff, Int.reduceAdd, Int.reduceSub, u0, u2, u8, e9, hap2.1, hA, hcell, hapB.1, hB, hcell2]
                refine callB_gives (sp_in _ _ 0 (p - 1)) ?_
                simp (disch := first | omega | assumption | (simp only [tab_len, List.length_cons, List.length_append, List.length_set, List.length_nil, List.length_replicate, List.length_map, one_int, one_bool, one_slice, one_upd, one_lay, one_if, one_c, one_by8, one_row, one_sq, one_grp, nums_len, one_alg, one_num, one_boolF, one_pair, one_zP] <;> omega) | fail) only [go_sem, eq_self, ↓reduceIte, Nat.reduceEqDiff, Int.reduceAdd, Int.reduceSub]
                refine ifB_ndec (fun h3 => ?_) (fun h3 => ?_)
                · simp (disch := first | omega | assumption | (simp only [tab_len, List.length_cons, List.length_append, List.length_set, List.length_nil, List.length_replicate, List.length_map, one_int, one_bool, one_slice, one_upd, one_lay, one_if, one_c, one_by8, one_row, one_sq, one_grp, nums_len, one_alg, one_num, one_boolF, one_pair, one_zP] <;> omega) | fail) only [go_sem, eq_self, ↓reduceIte, Nat.reduceEqDiff, Int.reduceAdd, Int.reduceSub]
                  refine up_plain ?_ (fun _ => rfl) rfl
                  unfold tabCode; rw [if_pos hc, hn, dec_false (p := Sq L (n : Int).toNat p) fun h => h3 ((h.2 i (by omega)).2 j (by omega))]; rfl
                · simp (disch := first | omega | assumption | (simp only [tab_len, List.length_cons, List.length_append, List.length_set, List.length_nil, List.length_replicate, List.length_map, one_int, one_bool, one_slice, one_upd, one_lay, one_if, one_c, one_by8, one_row, one_sq, one_grp, nums_len, one_alg, one_num, one_boolF, one_pair, one_zP] <;> omega) | fail) only [go_sem, eq_self, ↓reduceIte, Nat.reduceEqDiff, Int.reduceAdd, Int.reduceSub, e9]
                  refine hK2 _ _ _ (by omega) (Up.here ⟨rfl, ?_, ⟨_, hgr⟩, all_succ hok2 h3⟩)
                  simp (disch := first | omega | assumption | (simp only [tab_len, List.length_cons, List.length_append, List.length_set, List.length_nil, List.length_replicate, List.length_map, one_int, one_bool, one_slice, one_upd, one_lay, one_if, one_c, one_by8, one_row, one_sq, one_grp, nums_len, one_alg, one_num, one_boolF, one_pair, one_zP] <;> omega) | fail) only [go_sem, eq_self, ↓reduceIte, Nat.reduceEqDiff, Int.reduceAdd, Int.reduceSub]
              · have : j = n := by omega
                subst this
                simp (disch := first | omega | assumption | (simp only [tab_len, List.length_cons, List.length_append, List.length_set, List.length_nil, List.length_replicate, List.length_map, one_int, one_bool, one_slice, one_upd, one_lay, one_if, one_c, one_by8, one_row, one_sq, one_grp, nums_len, one_alg, one_num, one_boolF, one_pair, one_zP] <;> omega) | fail) only [go_sem, eq_self, ↓reduceIte, Nat.reduceEqDiff, Int.reduceAdd, Int.reduceSub, u8]
                refine hK _ _ _ (by omega) (Up.here ⟨rfl, ?_, ⟨_, hgr⟩, all_succ hok ⟨hr', hok2⟩⟩)
                simp (disch := first | omega | assumption | (simp only [tab_len, List.length_cons, List.length_append, List.length_set, List.length_nil, List.length_replicate, List.length_map, one_int, one_bool, one_slice, one_upd, one_lay, one_if, one_c, one_by8, one_row, one_sq, one_grp, nums_len, one_alg, one_num, one_boolF, one_pair, one_zP] <;> omega) | fail) only [go_sem, eq_self, ↓reduceIte, Nat.reduceEqDiff, Int.reduceAdd, Int.reduceSub]
        · have : i = n := by omega
          subst this
          simp (disch := first | omega | assumption | (simp only [tab_len, List.length_cons, List.length_append, List.length_set, List.length_nil, List.length_replicate, List.length_map, one_int, one_bool, one_slice, one_upd, one_lay, one_if, one_c, one_by8, one_row, one_sq, one_grp, nums_len, one_alg, one_num, one_boolF, one_pair, one_zP] <;> omega) | fail) only [go_sem, eq_self, ↓reduceIte, Nat.reduceEqDiff, Int.reduceAdd, Int.reduceSub]
          refine up_plain ?_ (fun _ => rfl) rfl
          unfold tabCode; rw [if_pos hc, hn, dec_true (p := Sq L (i : Int).toNat p) ⟨hl', fun k hk => hok k (by omega)⟩]; rfl
end Go.Proofs.Ytbenllhoofoahaa

