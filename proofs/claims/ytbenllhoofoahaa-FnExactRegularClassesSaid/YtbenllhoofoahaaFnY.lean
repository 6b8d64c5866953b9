/- Tables of numbers: whether they are square and in range. -/
import Derived.Test.YtbenllhoofoahaaFnX
namespace Go.Proofs.Ytbenllhoofoahaa
set_option linter.unusedSimpArgs false
set_option linter.unusedVariables false
set_option maxRecDepth 4000
open Go Go.Vc
def RowOk (l : List Int) (n : Nat) (p : Int) : Prop := l.length = n ∧ ∀ j < n, 0 ≤ l.getD j 0 ∧ l.getD j 0 ≤ p - 1
theorem clo_row (κ : Mem) (p : Int) (n : Nat) (v : Value) (l : List Int) (b b' : Nat) (hn : n ≤ 6) (hp : 0 ≤ p ∧ p ≤ 100) (hv : Row κ v l) (hb : Has κ b 3 [i64 n]) (hb' : Has κ b' 2 [i64 p]) :
    Gives Try.prog 81 [v, ptr b, ptr b'] κ (.bool (dec (¬ RowOk l n p))) := by
  have hv0 := hv
  obtain ⟨q, c, rfl, hlc, hcm, hC⟩ := hv
  have hb0 := hb'
  obtain ⟨t, hb⟩ := hb
  have hml := maxLen_lt
  refine gives_of (rs := [.tmp 4]) mixed Try.func81 rfl ok81 (by kernel_rfl) (by show 3 ≤ _; decide) rfl ?_
  simp (disch := first | omega | assumption | (simp only [tab_len, List.length_cons, List.length_append, List.length_set, List.length_nil, List.length_replicate, List.length_map, one_int, one_bool, one_slice, one_upd, one_lay, one_if, one_c, one_by8, one_row, one_sq, one_grp, nums_len, one_alg, one_num, one_boolF, one_pair, one_zP] <;> omega) | fail) only [go_sem, eq_self, ↓reduceIte, Nat.reduceEqDiff, Int.reduceAdd, Int.reduceSub]
  simp (disch := first | omega | assumption | (simp only [tab_len, List.length_cons, List.length_append, List.length_set, List.length_nil, List.length_replicate, List.length_map, one_int, one_bool, one_slice, one_upd, one_lay, one_if, one_c, one_by8, one_row, one_sq, one_grp, nums_len, one_alg, one_num, one_boolF, one_pair, one_zP] <;> omega) | fail) only [go_sem, eq_self, ↓reduceIte, Nat.reduceEqDiff, Int.reduceAdd, Int.reduceSub, hb, List.getElem?_cons_zero]
  by_cases hl : l.length = n
  · simp (disch := first | omega | assumption | (simp only [tab_len, List.length_cons, List.length_append, List.length_set, List.length_nil, List.length_replicate, List.length_map, one_int, one_bool, one_slice, one_upd, one_lay, one_if, one_c, one_by8, one_row, one_sq, one_grp, nums_len, one_alg, one_num, one_boolF, one_pair, one_zP] <;> omega) | fail) only [go_sem, eq_self, ↓reduceIte, Nat.reduceEqDiff, Int.reduceAdd, Int.reduceSub, hl]
    have hr : Sl (all κ none' none') n (.slice q n c) fun i u => u = i64 (l.getD i 0) := by rw [← hl, all_none]; exact hv0
    refine callB_gives (has_ints _ n _ _ _ (fun j => !decide (0 ≤ l.getD j 0 ∧ l.getD j 0 ≤ p - 1)) hr fun κ' hκ j hj u hu => ?_) ?_
    · subst hu
      refine ⟨83, #[], #[ptr b'], rfl, ?_⟩
      obtain ⟨t', hb0⟩ := hb0
      exact clo_in κ' p _ b' hp ⟨t', hκ _ _ (by rw [all_none]; exact hb0)⟩
    · rw [any_range (fun j hj => rfl)]
      simp (disch := first | omega | assumption | (simp only [tab_len, List.length_cons, List.length_append, List.length_set, List.length_nil, List.length_replicate, List.length_map, one_int, one_bool, one_slice, one_upd, one_lay, one_if, one_c, one_by8, one_row, one_sq, one_grp, nums_len, one_alg, one_num, one_boolF, one_pair, one_zP] <;> omega) | fail) only [go_sem, eq_self, ↓reduceIte, Nat.reduceEqDiff, Int.reduceAdd, Int.reduceSub, hl]
      refine up_plain ?_ (fun _ => rfl) rfl
      have e : (¬ ∀ j < n, 0 ≤ l.getD j 0 ∧ l.getD j 0 ≤ p - 1) ↔ ¬ RowOk l n p := ⟨fun h h' => h h'.2, fun h h' => h ⟨hl, h'⟩⟩
      exact congrArg Value.bool (dec_eq e)
  · have hl' : ¬ (l.length : Int) = n := by omega
    simp (disch := first | omega | assumption | (simp only [tab_len, List.length_cons, List.length_append, List.length_set, List.length_nil, List.length_replicate, List.length_map, one_int, one_bool, one_slice, one_upd, one_lay, one_if, one_c, one_by8, one_row, one_sq, one_grp, nums_len, one_alg, one_num, one_boolF, one_pair, one_zP] <;> omega) | fail) only [go_sem, eq_self, ↓reduceIte, Nat.reduceEqDiff, Int.reduceAdd, Int.reduceSub, hl']
    refine up_plain ?_ (fun _ => rfl) rfl
    rw [dec_true (p := ¬ RowOk l n p) fun h => hl h.1]
theorem sq_iff {L : List (List Int)} {n : Nat} {p : Int} : Sq L n p ↔ L.length = n ∧ ∀ i < n, RowOk (L.getD i []) n p := Iff.rfl
theorem fn_squareOk (κ : Mem) (p : Int) (n : Nat) (v : Value) (L : List (List Int)) (hn : n ≤ 6) (hp : 0 ≤ p ∧ p ≤ 100) (hv : Tbl κ v L) :
    Gives Try.prog 68 [v, i64 n, i64 p] κ (.bool (dec (Sq L n p))) := by
  have hv0 := hv
  obtain ⟨q, c, rfl, hlc, hcm, hC⟩ := hv
  have hml := maxLen_lt
  refine gives_of (rs := [.tmp 6]) mixed Try.func68 rfl ok68 (by kernel_rfl) (by show 3 ≤ _; decide) rfl ?_
  simp (disch := first | omega | assumption | (simp only [tab_len, List.length_cons, List.length_append, List.length_set, List.length_nil, List.length_replicate, List.length_map, one_int, one_bool, one_slice, one_upd, one_lay, one_if, one_c, one_by8, one_row, one_sq, one_grp, nums_len, one_alg, one_num, one_boolF, one_pair, one_zP] <;> omega) | fail) only [go_sem, eq_self, ↓reduceIte, Nat.reduceEqDiff, Int.reduceAdd, Int.reduceSub]
  refine anew_intro fun b b1 b2 b3 => ?_
  have b0 := b1
  try simp only [upd_none] at b0
  simp (disch := first | omega | assumption | (simp only [tab_len, List.length_cons, List.length_append, List.length_set, List.length_nil, List.length_replicate, List.length_map, one_int, one_bool, one_slice, one_upd, one_lay, one_if, one_c, one_by8, one_row, one_sq, one_grp, nums_len, one_alg, one_num, one_boolF, one_pair, one_zP] <;> omega) | fail) only [go_sem, eq_self, ↓reduceIte, Nat.reduceEqDiff, Int.reduceAdd, Int.reduceSub]
  refine anew_intro fun b2 b21 b22 b23 => ?_
  have b20 := b21
  try simp only [upd_none] at b20
  simp (disch := first | omega | assumption | (simp only [tab_len, List.length_cons, List.length_append, List.length_set, List.length_nil, List.length_replicate, List.length_map, one_int, one_bool, one_slice, one_upd, one_lay, one_if, one_c, one_by8, one_row, one_sq, one_grp, nums_len, one_alg, one_num, one_boolF, one_pair, one_zP] <;> omega) | fail) only [go_sem, eq_self, ↓reduceIte, Nat.reduceEqDiff, Int.reduceAdd, Int.reduceSub, List.getElem?_cons_zero]
  by_cases hl : L.length = n
  · simp (disch := first | omega | assumption | (simp only [tab_len, List.length_cons, List.length_append, List.length_set, List.length_nil, List.length_replicate, List.length_map, one_int, one_bool, one_slice, one_upd, one_lay, one_if, one_c, one_by8, one_row, one_sq, one_grp, nums_len, one_alg, one_num, one_boolF, one_pair, one_zP] <;> omega) | fail) only [go_sem, eq_self, ↓reduceIte, Nat.reduceEqDiff, Int.reduceAdd, Int.reduceSub, hl]
    generalize hM : (upd _ _ _ : Mem) = M0
    have h1 : Has M0 b 3 [i64 n] := by rw [← hM]; (simp (disch := first | omega | assumption | (simp only [tab_len, List.length_cons, List.length_append, List.length_set, List.length_nil, List.length_replicate, List.length_map, one_int, one_bool, one_slice, one_upd, one_lay, one_if, one_c, one_by8, one_row, one_sq, one_grp, nums_len, one_alg, one_num, one_boolF, one_pair, one_zP] <;> omega) | fail) only [go_sem, eq_self, ↓reduceIte, Nat.reduceEqDiff, Int.reduceAdd, Int.reduceSub, has_ne, has_same, true_and])
    have h2 : Has M0 b2 2 [i64 p] := by rw [← hM]; (simp (disch := first | omega | assumption | (simp only [tab_len, List.length_cons, List.length_append, List.length_set, List.length_nil, List.length_replicate, List.length_map, one_int, one_bool, one_slice, one_upd, one_lay, one_if, one_c, one_by8, one_row, one_sq, one_grp, nums_len, one_alg, one_num, one_boolF, one_pair, one_zP] <;> omega) | fail) only [go_sem, eq_self, ↓reduceIte, Nat.reduceEqDiff, Int.reduceAdd, Int.reduceSub, has_ne, has_same, true_and])
    have hle : Le κ (all κ none' M0) := fun x e hx => by
      have : x ≠ b ∧ x ≠ b2 := ⟨fun h => (by subst h; rw [hx] at b3; cases b3), fun h => (by subst h; rw [hx] at b23; cases b23)⟩
      simp only [all, over, ← hM, upd_ne this.1, upd_ne this.2, none', Option.none_or]; exact hx
    have hr : Sl (all κ none' M0) n (.slice q n c) fun i u => Row (all κ none' M0) u (L.getD i []) := by
      rw [← hl]; exact Sl.mono hv0 hle fun _ _ _ h => Row.mono h hle
    clear hM
    refine callB_gives (has_rows _ n _ _ _ (fun j => dec (¬ RowOk (L.getD j []) n p)) hr fun κ' hκ j hj u hu => ?_) ?_
    · refine ⟨81, #[], #[ptr b, ptr b2], rfl, ?_⟩
      obtain ⟨t1, h1⟩ := h1
      obtain ⟨t2, h2⟩ := h2
      exact clo_row κ' p n u _ b b2 hn hp (hu.mono hκ) ⟨t1, hκ _ _ (le_own _ _ h1)⟩ ⟨t2, hκ _ _ (le_own _ _ h2)⟩
    · simp (disch := first | omega | assumption | (simp only [tab_len, List.length_cons, List.length_append, List.length_set, List.length_nil, List.length_replicate, List.length_map, one_int, one_bool, one_slice, one_upd, one_lay, one_if, one_c, one_by8, one_row, one_sq, one_grp, nums_len, one_alg, one_num, one_boolF, one_pair, one_zP] <;> omega) | fail) only [go_sem, eq_self, ↓reduceIte, Nat.reduceEqDiff, Int.reduceAdd, Int.reduceSub, hl]
      refine up_plain ?_ (fun _ => rfl) rfl
      congr 1
      by_cases hS : Sq L n p
      · rw [dec_true hS]
        have : (List.range n).any (fun j => dec (¬ RowOk (L.getD j []) n p)) = false := by
          rw [List.any_eq_false]; intro i hi; rw [List.mem_range] at hi
          rw [dec_false (p := ¬ RowOk (L.getD i []) n p) (not_not_intro (hS.2 i hi))]; simp
        rw [this]; rfl
      · rw [dec_false hS]
        have : (List.range n).any (fun j => dec (¬ RowOk (L.getD j []) n p)) = true := by
          rw [List.any_eq_true]
          refine Classical.byContradiction fun hn => hS ⟨hl, fun i hi => Classical.byContradiction fun hi' => hn ⟨i, List.mem_range.2 hi, dec_true hi'⟩⟩
        rw [this]; rfl
  · have hl' : ¬ (L.length : Int) = n := by omega
    simp (disch := first | omega | assumption | (simp only [tab_len, List.length_cons, List.length_append, List.length_set, List.length_nil, List.length_replicate, List.length_map, one_int, one_bool, one_slice, one_upd, one_lay, one_if, one_c, one_by8, one_row, one_sq, one_grp, nums_len, one_alg, one_num, one_boolF, one_pair, one_zP] <;> omega) | fail) only [go_sem, eq_self, ↓reduceIte, Nat.reduceEqDiff, Int.reduceAdd, Int.reduceSub, hl']
    refine up_plain ?_ (fun _ => rfl) rfl
    rw [dec_false (p := Sq L n p) fun h => hl h.1]
/-- The code of a prime, a group and a table. -/
noncomputable def tabCode (p : Int) (G : Grp) (L : List (List Int)) : Int := if code p G = 0 then (if dec (Sq L G.n.toNat p) = true then 0 else 2) else code p G
theorem code_facts {p : Int} {G : Grp} (h : code p G = 0) : ∃ n : Nat, G.n = n ∧ IsG G n ∧ 2 ≤ p ∧ p ≤ 13 := by
  obtain ⟨⟨n, hn, hg⟩, hP⟩ := code_zero h
  refine ⟨n, hn, hg, ?_⟩
  simp only [IsP, List.mem_cons, List.not_mem_nil, or_false] at hP; omega
theorem fn_tabled (κ : Mem) (p : Int) (G : Grp) (v : Value) (L : List (List Int)) (hv : Tbl κ v L) : Gives Try.prog 62 [i64 p, .agg (tab 37 (grpF G)).toArray, v] κ (i64 (tabCode p G L)) := by
  refine gives_of (rs := [.tmp 6]) mixed Try.func62 rfl ok62 (by kernel_rfl) (by show 3 ≤ _; decide) rfl ?_
  simp (disch := first | omega | assumption | (simp only [tab_len, List.length_cons, List.length_append, List.length_set, List.length_nil, List.length_replicate, List.length_map, one_int, one_bool, one_slice, one_upd, one_lay, one_if, one_c, one_by8, one_row, one_sq, one_grp, nums_len, one_alg, one_num, one_boolF, one_pair, one_zP] <;> omega) | fail) only [go_sem, eq_self, ↓reduceIte, Nat.reduceEqDiff, Int.reduceAdd, Int.reduceSub]
  refine anew_intro fun g g1 g2 g3 => ?_
  have g0 := g1
  try simp only [upd_none] at g0
  simp (disch := first | omega | assumption | (simp only [tab_len, List.length_cons, List.length_append, List.length_set, List.length_nil, List.length_replicate, List.length_map, one_int, one_bool, one_slice, one_upd, one_lay, one_if, one_c, one_by8, one_row, one_sq, one_grp, nums_len, one_alg, one_num, one_boolF, one_pair, one_zP] <;> omega) | fail) only [go_sem, eq_self, ↓reduceIte, Nat.reduceEqDiff, Int.reduceAdd, Int.reduceSub]
  refine callB_gives (fn_primed _ p G) ?_
  simp (disch := first | omega | assumption | (simp only [tab_len, List.length_cons, List.length_append, List.length_set, List.length_nil, List.length_replicate, List.length_map, one_int, one_bool, one_slice, one_upd, one_lay, one_if, one_c, one_by8, one_row, one_sq, one_grp, nums_len, one_alg, one_num, one_boolF, one_pair, one_zP] <;> omega) | fail) only [go_sem, eq_self, ↓reduceIte, Nat.reduceEqDiff, Int.reduceAdd, Int.reduceSub]
  refine ifB_ndec (fun hc => ?_) (fun hc => ?_)
  · simp (disch := first | omega | assumption | (simp only [tab_len, List.length_cons, List.length_append, List.length_set, List.length_nil, List.length_replicate, List.length_map, one_int, one_bool, one_slice, one_upd, one_lay, one_if, one_c, one_by8, one_row, one_sq, one_grp, nums_len, one_alg, one_num, one_boolF, one_pair, one_zP] <;> omega) | fail) only [go_sem, eq_self, ↓reduceIte, Nat.reduceEqDiff, Int.reduceAdd, Int.reduceSub]
    refine up_plain ?_ (fun _ => rfl) rfl
    unfold tabCode; rw [if_neg hc]
  · obtain ⟨n, hn, hg, hp⟩ := code_facts hc
    have h6 := hg.1
    simp (disch := first | omega | assumption | (simp only [tab_len, List.length_cons, List.length_append, List.length_set, List.length_nil, List.length_replicate, List.length_map, one_int, one_bool, one_slice, one_upd, one_lay, one_if, one_c, one_by8, one_row, one_sq, one_grp, nums_len, one_alg, one_num, one_boolF, one_pair, one_zP] <;> omega) | fail) only [go_sem, eq_self, ↓reduceIte, Nat.reduceEqDiff, Int.reduceAdd, Int.reduceSub]
    refine callB_gives (fn_n G _ g 35 (has_own (by rw [has_same]; exact ⟨rfl, rfl⟩))) ?_
    simp (disch := first | omega | assumption | (simp only [tab_len, List.length_cons, List.length_append, List.length_set, List.length_nil, List.length_replicate, List.length_map, one_int, one_bool, one_slice, one_upd, one_lay, one_if, one_c, one_by8, one_row, one_sq, one_grp, nums_len, one_alg, one_num, one_boolF, one_pair, one_zP] <;> omega) | fail) only [go_sem, eq_self, ↓reduceIte, Nat.reduceEqDiff, Int.reduceAdd, Int.reduceSub, hn]
    refine callB_gives (fn_squareOk _ p n v L (by omega) (by omega) (hv.mono ((le_all Apart.none).trans (all_new g1 g2 g3)))) ?_
    simp (disch := first | omega | assumption | (simp only [tab_len, List.length_cons, List.length_append, List.length_set, List.length_nil, List.length_replicate, List.length_map, one_int, one_bool, one_slice, one_upd, one_lay, one_if, one_c, one_by8, one_row, one_sq, one_grp, nums_len, one_alg, one_num, one_boolF, one_pair, one_zP] <;> omega) | fail) only [go_sem, eq_self, ↓reduceIte, Nat.reduceEqDiff, Int.reduceAdd, Int.reduceSub]
    cases hS : dec (Sq L n p)
    · simp (disch := first | omega | assumption | (simp only [tab_len, List.length_cons, List.length_append, List.length_set, List.length_nil, List.length_replicate, List.length_map, one_int, one_bool, one_slice, one_upd, one_lay, one_if, one_c, one_by8, one_row, one_sq, one_grp, nums_len, one_alg, one_num, one_boolF, one_pair, one_zP] <;> omega) | fail) only [go_sem, eq_self, ↓reduceIte, Nat.reduceEqDiff, Int.reduceAdd, Int.reduceSub]
      refine up_plain ?_ (fun _ => rfl) rfl
      unfold tabCode; rw [if_pos hc, hn]; simp [hS]
    · simp (disch := first | omega | assumption | (simp only [tab_len, List.length_cons, List.length_append, List.length_set, List.length_nil, List.length_replicate, List.length_map, one_int, one_bool, one_slice, one_upd, one_lay, one_if, one_c, one_by8, one_row, one_sq, one_grp, nums_len, one_alg, one_num, one_boolF, one_pair, one_zP] <;> omega) | fail) only [go_sem, eq_self, ↓reduceIte, Nat.reduceEqDiff, Int.reduceAdd, Int.reduceSub]
      refine up_plain ?_ (fun _ => rfl) rfl
      unfold tabCode; rw [if_pos hc, hn]; simp [hS]
end Go.Proofs.Ytbenllhoofoahaa

