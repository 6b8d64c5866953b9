/- FnExactRegularClasses: the walk. -/
import Derived.Test.YtbenllhoofoahaaFnFF
namespace Go.Proofs.Ytbenllhoofoahaa
set_option linter.unusedSimpArgs false
set_option linter.unusedVariables false
set_option maxRecDepth 4000
open Go Go.Vc
theorem OwnL.row {M : Mem} {s : Value} {l : List Int} (h : OwnL M s l) : Row M s l := by
  rcases h with ⟨rfl, rfl, rfl⟩ | ⟨b, c, rfl, h1, h2, rfl⟩
  · exact ⟨none, 0, rfl, Nat.le_refl _, by decide, fun i hi => by simp at hi⟩
  · exact ⟨_, c, rfl, h1, h2, fun i hi => ⟨b, 0, 2, nums l, c, _, rfl, upd_same .., by rw [Nat.zero_add]; exact nums_get l i hi, rfl⟩⟩
theorem CopyT.tbl {M : Mem} {s : Value} {L : List (List Int)} {q : Nat} {B : Nat → Nat} (h : CopyT M s L q B) (h1 : L.length ≤ 1048576) (h2 : ∀ k < L.length, (L.getD k []).length ≤ 1048576) : Tbl M s L := by
  have hml := maxLen_big
  have h3 : maxLen = 9223372036854775807 := rfl
  refine ⟨_, _, h.v, Nat.le_refl _, by omega, fun i hi => ⟨q, 0, 41, _, _, _, rfl, h.out, by rw [Nat.zero_add]; exact tab_get _ _ _ hi, _, _, rfl, Nat.le_refl _, by have := h2 i hi; omega, fun j hj => ?_⟩⟩
  exact ⟨B i, 0, 2, _, _, _, rfl, h.row i hi, by rw [Nat.zero_add]; exact nums_get _ _ hj, rfl⟩
theorem CopyT.mono {M M' : Mem} {s : Value} {L : List (List Int)} {q : Nat} {B : Nat → Nat} (h : CopyT M s L q B) (hl : Le M M') : CopyT M' s L q B := ⟨h.v, hl _ _ h.out, fun k hk => hl _ _ (h.row k hk), h.ne, h.inj⟩
theorem szT_bd {L : List (List Int)} (h : ¬ szT L 1048576 < 0) : L.length + lens L L.length ≤ 1048576 ∧ ∀ k < L.length, (L.getD k []).length ≤ 1048576 := by
  have h1 : L.length + lens L L.length ≤ 1048576 := by unfold szT at h; split at h <;> omega
  refine ⟨h1, fun k hk => ?_⟩
  have h2 := lens_succ L k hk
  have h3 := lens_mono L (k + 1) L.length (by omega) (by omega)
  omega
theorem regL_len (p : Int) (G : Grp) (L : List (List Int)) : (regL p G L).length ≤ 6 := by
  unfold regL
  by_cases h : twCode p G L = 0
  · rw [if_pos h]
    obtain ⟨n, hn, hg, _⟩ := tw_facts h
    have h6 := hg.1
    have h1 := regUp_len L G.n.toNat G (clsUp G G.n.toNat G.n.toNat).length
    have h2 := clsUp_len G G.n.toNat G.n.toNat
    omega
  · rw [if_neg h]; simp
theorem law_mark_nil (κ : Mem) (k : Int) : Gives Try.prog 16 [.slice none 0 0, i64 k] κ (i64 k) := by
  refine gives_of (rs := [.tmp 4]) mixed Try.func16 rfl ok16 (by kernel_rfl) (by show 2 ≤ _; decide) rfl ?_
  simp (disch := first | omega | assumption | (simp only [tab_len, List.length_cons, List.length_append, List.length_set, List.length_nil, List.length_replicate, List.length_map, one_int, one_bool, one_slice, one_upd, one_lay, one_if, one_c, one_by8, one_row, one_sq, one_grp, nums_len, one_alg, one_num, one_boolF, one_pair, one_zP] <;> omega) | fail) only [go_sem, eq_self, ↓reduceIte, Nat.reduceEqDiff, Int.reduceAdd, Int.reduceSub]
  refine vc_up 0 0 (fun i env M ψ => ψ = none' ∧ env 5 = .int .i64 i ∧ env 1 = .int .i64 k) (by omega) ?_ ?_
  · refine ⟨rfl, ?_, ?_⟩
    · simp (disch := first | omega | assumption | (simp only [tab_len, List.length_cons, List.length_append, List.length_set, List.length_nil, List.length_replicate, List.length_map, one_int, one_bool, one_slice, one_upd, one_lay, one_if, one_c, one_by8, one_row, one_sq, one_grp, nums_len, one_alg, one_num, one_boolF, one_pair, one_zP] <;> omega) | fail) only [go_sem, eq_self, ↓reduceIte, Nat.reduceEqDiff, Int.reduceAdd, Int.reduceSub]
    · simp (disch := first | omega | assumption | (simp only [tab_len, List.length_cons, List.length_append, List.length_set, List.length_nil, List.length_replicate, List.length_map, one_int, one_bool, one_slice, one_upd, one_lay, one_if, one_c, one_by8, one_row, one_sq, one_grp, nums_len, one_alg, one_num, one_boolF, one_pair, one_zP] <;> omega) | fail) only [go_sem, eq_self, ↓reduceIte, Nat.reduceEqDiff, Int.reduceAdd, Int.reduceSub]
  · rintro i env M ψ hi hf - ap ⟨rfl, e5, e1⟩ K hK
    have e0 := hf 0 (by kernel_rfl)
    simp (disch := first | omega | assumption | (simp only [tab_len, List.length_cons, List.length_append, List.length_set, List.length_nil, List.length_replicate, List.length_map, one_int, one_bool, one_slice, one_upd, one_lay, one_if, one_c, one_by8, one_row, one_sq, one_grp, nums_len, one_alg, one_num, one_boolF, one_pair, one_zP] <;> omega) | fail) only [go_sem, eq_self, ↓reduceIte, Nat.reduceEqDiff, Int.reduceAdd, Int.reduceSub] at e0
    obtain rfl : i = 0 := by omega
    simp (disch := first | omega | assumption | (simp only [tab_len, List.length_cons, List.length_append, List.length_set, List.length_nil, List.length_replicate, List.length_map, one_int, one_bool, one_slice, one_upd, one_lay, one_if, one_c, one_by8, one_row, one_sq, one_grp, nums_len, one_alg, one_num, one_boolF, one_pair, one_zP] <;> omega) | fail) only [go_sem, eq_self, ↓reduceIte, Nat.reduceEqDiff, Int.reduceAdd, Int.reduceSub, e0, e5]
    exact up_plain e1 (fun _ => rfl) rfl
theorem callB_mark {κ M ψ M4 : Mem} {s : Value} {l : List Int} {F : Value → Mem → Mem → Prop} (ak : ApK κ ψ M) (h : OwnL M4 s l) (hle : Le M4 M) (hl : l.length ≤ 1000)
    (hk : ∀ Mg, ApK κ ψ Mg → (∀ A, Le A M → (∀ b, A b ≠ none → M4 b = none) → Le A Mg) → Row Mg s (marks 1 l.length) → F (i64 (1 + l.length)) Mg ψ) : @callB Try.prog κ (.func (.func 16) #[] #[]) #[s, i64 1] ⟨F⟩ M ψ := by
  have hml := maxLen_big
  rcases h with ⟨rfl, rfl, rfl⟩ | ⟨b, c, rfl, h1, h2, rfl⟩
  · refine callB_gives (law_mark_nil _ 1) ?_
    exact hk M ak (fun A h _ => h) ⟨none, 0, rfl, Nat.le_refl _, by omega, fun i hi => by simp [marks] at hi⟩
  · have hb := hle b _ (upd_same ..)
    refine callB_edits hb (law_mark _ b c c l 1 (by omega) (by omega) h1) ?_
    rintro v e' ⟨rfl, rfl⟩
    refine hk _ (ak.set hb) (fun A hA hd k x hx => ?_) ⟨some ⟨b, 0, none⟩, c, ?_, ?_, h2, fun i hi => ?_⟩
    · have : k ≠ b := fun e => by subst e; have := hd k (by simp [hx]); rw [upd_same] at this; cases this
      rw [upd_ne this]; exact hA k x hx
    · rw [marks_len]
    · rw [marks_len]; exact h1
    · exact ⟨b, 0, 2, nums (marks 1 l.length), c, _, rfl, upd_same .., by rw [Nat.zero_add]; exact nums_get _ i hi, rfl⟩
theorem law_regular (κ : Mem) (p : Int) (G : Grp) (v : Value) (L : List (List Int)) (hv : Tbl κ v L) : CallsX Try.prog 4 #[i64 p, .agg (tab 37 (grpF G)).toArray, v] none' κ (fun r M ψ => r = .bool true) := by
  refine run_of (rs := [.tmp 6]) (args := [i64 p, .agg (tab 37 (grpF G)).toArray, v]) mixed Try.func4 rfl ok4 (by kernel_rfl) (by show 3 ≤ _; decide) rfl ?_
  simp (disch := first | omega | assumption | (simp only [tab_len, List.length_cons, List.length_append, List.length_set, List.length_nil, List.length_replicate, List.length_map, one_int, one_bool, one_slice, one_upd, one_lay, one_if, one_c, one_by8, one_row, one_sq, one_grp, nums_len, one_alg, one_num, one_boolF, one_pair, one_zP] <;> omega) | fail) only [go_sem, eq_self, ↓reduceIte, Nat.reduceEqDiff, Int.reduceAdd, Int.reduceSub]
  refine anew_intro fun g g1 g2 g3 => ?_
  have g0 := g1
  try simp only [upd_none] at g0
  have ak : ApK κ none' (upd none' g (some ⟨25, tab 37 (grpF G), (tab 37 (grpF G)).length⟩)) := ApK.none.new g3
  simp (disch := first | omega | assumption | (simp only [tab_len, List.length_cons, List.length_append, List.length_set, List.length_nil, List.length_replicate, List.length_map, one_int, one_bool, one_slice, one_upd, one_lay, one_if, one_c, one_by8, one_row, one_sq, one_grp, nums_len, one_alg, one_num, one_boolF, one_pair, one_zP] <;> omega) | fail) only [go_sem, eq_self, ↓reduceIte, Nat.reduceEqDiff, Int.reduceAdd, Int.reduceSub]
  refine callB_gives (law_szs _ v L (hv.mono ak.le)) ?_
  simp (disch := first | omega | assumption | (simp only [tab_len, List.length_cons, List.length_append, List.length_set, List.length_nil, List.length_replicate, List.length_map, one_int, one_bool, one_slice, one_upd, one_lay, one_if, one_c, one_by8, one_row, one_sq, one_grp, nums_len, one_alg, one_num, one_boolF, one_pair, one_zP] <;> omega) | fail) only [go_sem, eq_self, ↓reduceIte, Nat.reduceEqDiff, Int.reduceAdd, Int.reduceSub]
  refine ifB_dec (fun hz => ?_) (fun hz => ?_)
  · simp (disch := first | omega | assumption | (simp only [tab_len, List.length_cons, List.length_append, List.length_set, List.length_nil, List.length_replicate, List.length_map, one_int, one_bool, one_slice, one_upd, one_lay, one_if, one_c, one_by8, one_row, one_sq, one_grp, nums_len, one_alg, one_num, one_boolF, one_pair, one_zP] <;> omega) | fail) only [go_sem, eq_self, ↓reduceIte, Nat.reduceEqDiff, Int.reduceAdd, Int.reduceSub]
    exact Up.here trivial
  · obtain ⟨hL, hR⟩ := szT_bd hz
    have hL1 : L.length ≤ 1048576 := by omega
    simp (disch := first | omega | assumption | (simp only [tab_len, List.length_cons, List.length_append, List.length_set, List.length_nil, List.length_replicate, List.length_map, one_int, one_bool, one_slice, one_upd, one_lay, one_if, one_c, one_by8, one_row, one_sq, one_grp, nums_len, one_alg, one_num, one_boolF, one_pair, one_zP] <;> omega) | fail) only [go_sem, eq_self, ↓reduceIte, Nat.reduceEqDiff, Int.reduceAdd, Int.reduceSub]
    refine callB_gives (toGroup G _) ?_
    simp (disch := first | omega | assumption | (simp only [tab_len, List.length_cons, List.length_append, List.length_set, List.length_nil, List.length_replicate, List.length_map, one_int, one_bool, one_slice, one_upd, one_lay, one_if, one_c, one_by8, one_row, one_sq, one_grp, nums_len, one_alg, one_num, one_boolF, one_pair, one_zP] <;> omega) | fail) only [go_sem, eq_self, ↓reduceIte, Nat.reduceEqDiff, Int.reduceAdd, Int.reduceSub]
    generalize hM0 : (upd _ _ _ : Mem) = M0 at ak ⊢
    have hg0 : M0 g = some ⟨25, tab 37 (grpF G), (tab 37 (grpF G)).length⟩ := by rw [← hM0, upd_same]
    clear hM0
    refine callB_ownX ak (law_tos _ v L hL1 hR (hv.mono ak.le)) ?_
    rintro x M1 ψ1 Ma ψa ⟨q1, B1, hc1⟩ - h01 h11 - - ak
    simp (disch := first | omega | assumption | (simp only [tab_len, List.length_cons, List.length_append, List.length_set, List.length_nil, List.length_replicate, List.length_map, one_int, one_bool, one_slice, one_upd, one_lay, one_if, one_c, one_by8, one_row, one_sq, one_grp, nums_len, one_alg, one_num, one_boolF, one_pair, one_zP] <;> omega) | fail) only [go_sem, eq_self, ↓reduceIte, Nat.reduceEqDiff, Int.reduceAdd, Int.reduceSub]
    refine callB_ownX ak (sp_regular _ p G x L ((hc1.tbl hL1 hR).mono (h11.trans le_own))) ?_
    rintro y M2 ψ2 Mb ψb ⟨sw, rfl, hw⟩ - hab h2b - - ak
    have hwR : Row Mb sw (regL p G L) := hw.row.mono h2b
    have hgb := hab _ _ (h01 _ _ hg0)
    simp (disch := first | omega | assumption | (simp only [tab_len, List.length_cons, List.length_append, List.length_set, List.length_nil, List.length_replicate, List.length_map, one_int, one_bool, one_slice, one_upd, one_lay, one_if, one_c, one_by8, one_row, one_sq, one_grp, nums_len, one_alg, one_num, one_boolF, one_pair, one_zP] <;> omega) | fail) only [go_sem, eq_self, ↓reduceIte, Nat.reduceEqDiff, Int.reduceAdd, Int.reduceSub, tup0, tup1]
    refine callB_ownX ak (law_tos _ v L hL1 hR (hv.mono ak.le)) ?_
    rintro x M3 ψ3 Mc ψc ⟨q3, B3, hc3⟩ - hbc h3c - hd3 ak
    have hgc := hbc _ _ hgb
    simp (disch := first | omega | assumption | (simp only [tab_len, List.length_cons, List.length_append, List.length_set, List.length_nil, List.length_replicate, List.length_map, one_int, one_bool, one_slice, one_upd, one_lay, one_if, one_c, one_by8, one_row, one_sq, one_grp, nums_len, one_alg, one_num, one_boolF, one_pair, one_zP] <;> omega) | fail) only [go_sem, eq_self, ↓reduceIte, Nat.reduceEqDiff, Int.reduceAdd, Int.reduceSub, hgc]
    refine callB_gives (toGroup G _) ?_
    simp (disch := first | omega | assumption | (simp only [tab_len, List.length_cons, List.length_append, List.length_set, List.length_nil, List.length_replicate, List.length_map, one_int, one_bool, one_slice, one_upd, one_lay, one_if, one_c, one_by8, one_row, one_sq, one_grp, nums_len, one_alg, one_num, one_boolF, one_pair, one_zP] <;> omega) | fail) only [go_sem, eq_self, ↓reduceIte, Nat.reduceEqDiff, Int.reduceAdd, Int.reduceSub]
    refine callB_ownX ak (fn_regular _ p G x L ((hc3.tbl hL1 hR).mono (h3c.trans le_own))) ?_
    rintro y M4 ψ4 Md ψd ⟨sg, rfl, hg4⟩ - hcd h4d - hd4 ak
    simp (disch := first | omega | assumption | (simp only [tab_len, List.length_cons, List.length_append, List.length_set, List.length_nil, List.length_replicate, List.length_map, one_int, one_bool, one_slice, one_upd, one_lay, one_if, one_c, one_by8, one_row, one_sq, one_grp, nums_len, one_alg, one_num, one_boolF, one_pair, one_zP] <;> omega) | fail) only [go_sem, eq_self, ↓reduceIte, Nat.reduceEqDiff, Int.reduceAdd, Int.reduceSub, tup0, tup1]
    have hdR := hg4.row.mono h4d
    refine callB_gives (law_eq _ _ _ _ (hdR.mono le_own) ((hwR.mono (hbc.trans hcd)).mono le_own)) ?_
    simp (disch := first | omega | assumption | (simp only [tab_len, List.length_cons, List.length_append, List.length_set, List.length_nil, List.length_replicate, List.length_map, one_int, one_bool, one_slice, one_upd, one_lay, one_if, one_c, one_by8, one_row, one_sq, one_grp, nums_len, one_alg, one_num, one_boolF, one_pair, one_zP] <;> omega) | fail) only [go_sem, eq_self, ↓reduceIte, Nat.reduceEqDiff, Int.reduceAdd, Int.reduceSub]
    refine callB_ownX ak (law_tos _ v L hL1 hR (hv.mono ak.le)) ?_
    rintro x5 M5 ψ5 Me ψe ⟨q5, B5, hc5⟩ - hde h5e - hd5 ak
    simp (disch := first | omega | assumption | (simp only [tab_len, List.length_cons, List.length_append, List.length_set, List.length_nil, List.length_replicate, List.length_map, one_int, one_bool, one_slice, one_upd, one_lay, one_if, one_c, one_by8, one_row, one_sq, one_grp, nums_len, one_alg, one_num, one_boolF, one_pair, one_zP] <;> omega) | fail) only [go_sem, eq_self, ↓reduceIte, Nat.reduceEqDiff, Int.reduceAdd, Int.reduceSub]
    refine callB_gives (law_eqs _ _ _ L ((hc3.tbl hL1 hR).mono ((h3c.trans (hcd.trans hde)).trans le_own)) ((hc5.tbl hL1 hR).mono (h5e.trans le_own))) ?_
    simp (disch := first | omega | assumption | (simp only [tab_len, List.length_cons, List.length_append, List.length_set, List.length_nil, List.length_replicate, List.length_map, one_int, one_bool, one_slice, one_upd, one_lay, one_if, one_c, one_by8, one_row, one_sq, one_grp, nums_len, one_alg, one_num, one_boolF, one_pair, one_zP] <;> omega) | fail) only [go_sem, eq_self, ↓reduceIte, Nat.reduceEqDiff, Int.reduceAdd, Int.reduceSub]
    have h3e : Le M3 Me := h3c.trans (hcd.trans hde)
    refine callB_lend M3 ak h3e (law_marks _ M3 x L q3 B3 hc3 hL) ?_
    rintro z Mx ψx Mf ψf ⟨z, hz0, rfl⟩ hrf - ak
    have hbf : Le Mb Mf := (le_rest (hbc.trans (hcd.trans hde)) hd3).trans hrf
    have h4f : Le M4 Mf := (le_rest (h4d.trans hde) fun b hb => by
      cases h3 : M3 b with
      | none => rfl
      | some e => exact (hb (hd4 b (by rw [h3c b e h3]; simp))).elim).trans hrf
    simp (disch := first | omega | assumption | (simp only [tab_len, List.length_cons, List.length_append, List.length_set, List.length_nil, List.length_replicate, List.length_map, one_int, one_bool, one_slice, one_upd, one_lay, one_if, one_c, one_by8, one_row, one_sq, one_grp, nums_len, one_alg, one_num, one_boolF, one_pair, one_zP] <;> omega) | fail) only [go_sem, eq_self, ↓reduceIte, Nat.reduceEqDiff, Int.reduceAdd, Int.reduceSub]
    have hzz : ¬ z < 0 := by omega
    simp (disch := first | omega | assumption | (simp only [tab_len, List.length_cons, List.length_append, List.length_set, List.length_nil, List.length_replicate, List.length_map, one_int, one_bool, one_slice, one_upd, one_lay, one_if, one_c, one_by8, one_row, one_sq, one_grp, nums_len, one_alg, one_num, one_boolF, one_pair, one_zP] <;> omega) | fail) only [go_sem, eq_self, ↓reduceIte, Nat.reduceEqDiff, Int.reduceAdd, Int.reduceSub, hzz]
    refine callB_gives (law_eq _ _ _ _ ((hg4.row.mono h4f).mono le_own) ((hwR.mono hbf).mono le_own)) ?_
    simp (disch := first | omega | assumption | (simp only [tab_len, List.length_cons, List.length_append, List.length_set, List.length_nil, List.length_replicate, List.length_map, one_int, one_bool, one_slice, one_upd, one_lay, one_if, one_c, one_by8, one_row, one_sq, one_grp, nums_len, one_alg, one_num, one_boolF, one_pair, one_zP] <;> omega) | fail) only [go_sem, eq_self, ↓reduceIte, Nat.reduceEqDiff, Int.reduceAdd, Int.reduceSub, hzz]
    have hrl := regL_len p G L
    refine callB_mark ak hg4 h4f (by omega) fun Mg ak hkeep hmk => ?_
    have hbg : Le Mb Mg := hkeep Mb hbf fun b hb => hd4 b (by
      cases hm : Mb b with
      | none => exact (hb hm).elim
      | some e => rw [hbc b e hm]; simp)
    have hgg := hbg _ _ hgb
    simp (disch := first | omega | assumption | (simp only [tab_len, List.length_cons, List.length_append, List.length_set, List.length_nil, List.length_replicate, List.length_map, one_int, one_bool, one_slice, one_upd, one_lay, one_if, one_c, one_by8, one_row, one_sq, one_grp, nums_len, one_alg, one_num, one_boolF, one_pair, one_zP] <;> omega) | fail) only [go_sem, eq_self, ↓reduceIte, Nat.reduceEqDiff, Int.reduceAdd, Int.reduceSub]
    refine callB_gives (law_held _ sg _ 1 (by omega) (by omega) (hmk.mono le_own)) ?_
    have h1n : ¬ (1 : Int) + ((regL p G L).length : Nat) < 0 := by omega
    simp (disch := first | omega | assumption | (simp only [tab_len, List.length_cons, List.length_append, List.length_set, List.length_nil, List.length_replicate, List.length_map, one_int, one_bool, one_slice, one_upd, one_lay, one_if, one_c, one_by8, one_row, one_sq, one_grp, nums_len, one_alg, one_num, one_boolF, one_pair, one_zP] <;> omega) | fail) only [go_sem, eq_self, ↓reduceIte, Nat.reduceEqDiff, Int.reduceAdd, Int.reduceSub, h1n, hgg]
    refine callB_gives (toGroup G _) ?_
    simp (disch := first | omega | assumption | (simp only [tab_len, List.length_cons, List.length_append, List.length_set, List.length_nil, List.length_replicate, List.length_map, one_int, one_bool, one_slice, one_upd, one_lay, one_if, one_c, one_by8, one_row, one_sq, one_grp, nums_len, one_alg, one_num, one_boolF, one_pair, one_zP] <;> omega) | fail) only [go_sem, eq_self, ↓reduceIte, Nat.reduceEqDiff, Int.reduceAdd, Int.reduceSub]
    refine callB_ownX ak (law_tos _ v L hL1 hR (hv.mono ak.le)) ?_
    rintro x7 M7 ψ7 Mh ψh ⟨q7, B7, hc7⟩ - hgh h7h - - ak
    simp (disch := first | omega | assumption | (simp only [tab_len, List.length_cons, List.length_append, List.length_set, List.length_nil, List.length_replicate, List.length_map, one_int, one_bool, one_slice, one_upd, one_lay, one_if, one_c, one_by8, one_row, one_sq, one_grp, nums_len, one_alg, one_num, one_boolF, one_pair, one_zP] <;> omega) | fail) only [go_sem, eq_self, ↓reduceIte, Nat.reduceEqDiff, Int.reduceAdd, Int.reduceSub]
    refine callB_ownX ak (fn_regular _ p G x7 L ((hc7.tbl hL1 hR).mono (h7h.trans le_own))) ?_
    rintro y8 M8 ψ8 Mi ψi ⟨sh, rfl, hh8⟩ - hhi h8i - - ak
    simp (disch := first | omega | assumption | (simp only [tab_len, List.length_cons, List.length_append, List.length_set, List.length_nil, List.length_replicate, List.length_map, one_int, one_bool, one_slice, one_upd, one_lay, one_if, one_c, one_by8, one_row, one_sq, one_grp, nums_len, one_alg, one_num, one_boolF, one_pair, one_zP] <;> omega) | fail) only [go_sem, eq_self, ↓reduceIte, Nat.reduceEqDiff, Int.reduceAdd, Int.reduceSub, tup0, tup1]
    refine callB_gives (law_eq _ _ _ _ ((hh8.row.mono h8i).mono le_own) ((hwR.mono (hbg.trans (hgh.trans hhi))).mono le_own)) ?_
    simp (disch := first | omega | assumption | (simp only [tab_len, List.length_cons, List.length_append, List.length_set, List.length_nil, List.length_replicate, List.length_map, one_int, one_bool, one_slice, one_upd, one_lay, one_if, one_c, one_by8, one_row, one_sq, one_grp, nums_len, one_alg, one_num, one_boolF, one_pair, one_zP] <;> omega) | fail) only [go_sem, eq_self, ↓reduceIte, Nat.reduceEqDiff, Int.reduceAdd, Int.reduceSub]
    refine callB_gives (law_held _ sg _ 1 (by omega) (by omega) ((hmk.mono (hgh.trans hhi)).mono le_own)) ?_
    simp (disch := first | omega | assumption | (simp only [tab_len, List.length_cons, List.length_append, List.length_set, List.length_nil, List.length_replicate, List.length_map, one_int, one_bool, one_slice, one_upd, one_lay, one_if, one_c, one_by8, one_row, one_sq, one_grp, nums_len, one_alg, one_num, one_boolF, one_pair, one_zP] <;> omega) | fail) only [go_sem, eq_self, ↓reduceIte, Nat.reduceEqDiff, Int.reduceAdd, Int.reduceSub, h1n]
    exact Up.here trivial
end Go.Proofs.Ytbenllhoofoahaa

