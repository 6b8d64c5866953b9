/- The law's own helpers: sizes, copies, equality, marks. -/
import Derived.Test.YtbenllhoofoahaaFnDD
namespace Go.Proofs.Ytbenllhoofoahaa
set_option linter.unusedSimpArgs false
set_option linter.unusedVariables false
set_option maxRecDepth 4000
open Go Go.Vc
theorem makeS_one {P : Program} {t e : TypeId} {v : Value} {n b : Nat} (hu : P.underlying t = some (.slice e)) (hz : zeroOf P e = some [v]) (hm : P.cellsOf e = 1) (hb : ((P.info? e).map (·.bytes)) = some b) (hn : b * n ≤ 281474976710656) (hn2 : n ≤ 9223372036854775807) :
    makeS P t (.int .i64 n) (.int .i64 n) = some (e, tab n fun _ => v, n, n) := by
  unfold zeroOf at hz
  rw [Option.map_eq_some_iff] at hz
  obtain ⟨z, hz, hz1⟩ := hz
  rw [Option.map_eq_some_iff] at hb
  obtain ⟨i, hi, rfl⟩ := hb
  have hzc : z.cells = #[v] := by rw [← Array.toList_inj]; simpa using hz1
  simp only [makeS, hu, hi, hm, Nat.mul_one, Int.toNat_natCast]
  rw [hi, Option.bind_some] at hz
  have e : ((Array.range n).map fun k => v).toList = tab n fun _ => v := by
    refine tab_ext (m := 0) (by simp) fun j hj => ?_
    simp [hj]
  have h1 : (0 : Int) ≤ n ∧ (n : Int) ≤ n ∧ (i.bytes : Int) * n ≤ 281474976710656 ∧ (n : Int) ≤ 9223372036854775807 := ⟨by omega, by omega, by have := Int.ofNat_le.2 hn; rw [Int.natCast_mul] at this; exact this, by omega⟩
  by_cases h0 : n = 0
  · subst h0
    simp [tab]
  · simp only [if_neg h0, Option.bind_some, hz, Option.map_some, hzc, h1, and_self, if_true]
    congr 2
    rw [← e]
    simp [Nat.mod_one]
/-- How long the rows are together, up to one. -/
def lens (L : List (List Int)) (i : Nat) : Nat := ((L.take i).map List.length).sum
theorem lens_succ (L : List (List Int)) (i : Nat) (h : i < L.length) : lens L (i + 1) = lens L i + (L.getD i []).length := by
  unfold lens
  rw [List.take_add_one, List.getD_eq_getElem?_getD, List.getElem?_eq_getElem h, List.map_append, List.sum_append]
  simp only [Option.toList_some, Option.getD_some, List.map_cons, List.map_nil, List.sum_cons, List.sum_nil, Nat.add_zero]
theorem lens_mono (L : List (List Int)) (i j : Nat) (h : i ≤ j) (hj : j ≤ L.length) : lens L i ≤ lens L j := by
  induction j with
  | zero => have : i = 0 := by omega
            subst this; exact Nat.le_refl _
  | succ j ih =>
    by_cases hi : i = j + 1
    · subst hi; exact Nat.le_refl _
    · rw [lens_succ _ _ (by omega)]; have := ih (by omega) (by omega); omega
def szL (n : Nat) (left : Int) : Int := if left - n < 0 then -1 else left - n
def szT (L : List (List Int)) (left : Int) : Int := if left - L.length - lens L L.length < 0 then -1 else left - L.length - lens L L.length
theorem law_sz (κ : Mem) (v : Value) (l : List Int) (left : Int) (hl : 0 ≤ left ∧ left ≤ 1048576) (hv : Row κ v l) : Gives Try.prog 28 [v, i64 left] κ (i64 (szL l.length left)) := by
  obtain ⟨p, c, rfl, h1, h2, -⟩ := hv
  have hml := maxLen_lt
  refine gives_of (rs := [.tmp 4]) mixed Try.func28 rfl ok28 (by kernel_rfl) (by show 2 ≤ _; decide) rfl ?_
  simp (disch := first | omega | assumption | (simp only [tab_len, List.length_cons, List.length_append, List.length_set, List.length_nil, List.length_replicate, List.length_map, one_int, one_bool, one_slice, one_upd, one_lay, one_if, one_c, one_by8, one_row, one_sq, one_grp, nums_len, one_alg, one_num, one_boolF, one_pair, one_zP] <;> omega) | fail) only [go_sem, eq_self, ↓reduceIte, Nat.reduceEqDiff, Int.reduceAdd, Int.reduceSub]
  refine ifB_dec (fun h => ?_) (fun h => ?_)
  · simp (disch := first | omega | assumption | (simp only [tab_len, List.length_cons, List.length_append, List.length_set, List.length_nil, List.length_replicate, List.length_map, one_int, one_bool, one_slice, one_upd, one_lay, one_if, one_c, one_by8, one_row, one_sq, one_grp, nums_len, one_alg, one_num, one_boolF, one_pair, one_zP] <;> omega) | fail) only [go_sem, eq_self, ↓reduceIte, Nat.reduceEqDiff, Int.reduceAdd, Int.reduceSub]
    refine up_plain ?_ (fun _ => rfl) rfl
    unfold szL; rw [if_pos h]
  · simp (disch := first | omega | assumption | (simp only [tab_len, List.length_cons, List.length_append, List.length_set, List.length_nil, List.length_replicate, List.length_map, one_int, one_bool, one_slice, one_upd, one_lay, one_if, one_c, one_by8, one_row, one_sq, one_grp, nums_len, one_alg, one_num, one_boolF, one_pair, one_zP] <;> omega) | fail) only [go_sem, eq_self, ↓reduceIte, Nat.reduceEqDiff, Int.reduceAdd, Int.reduceSub]
    refine up_plain ?_ (fun _ => rfl) rfl
    unfold szL; rw [if_neg h]
theorem law_szs (κ : Mem) (v : Value) (L : List (List Int)) (hv : Tbl κ v L) : Gives Try.prog 9 [v, i64 1048576] κ (i64 (szT L 1048576)) := by
  obtain ⟨p, c, rfl, h1, h2, hC⟩ := hv
  have hml := maxLen_lt
  refine gives_of (rs := [.tmp 4]) mixed Try.func9 rfl ok9 (by kernel_rfl) (by show 2 ≤ _; decide) rfl ?_
  simp (disch := first | omega | assumption | (simp only [tab_len, List.length_cons, List.length_append, List.length_set, List.length_nil, List.length_replicate, List.length_map, one_int, one_bool, one_slice, one_upd, one_lay, one_if, one_c, one_by8, one_row, one_sq, one_grp, nums_len, one_alg, one_num, one_boolF, one_pair, one_zP] <;> omega) | fail) only [go_sem, eq_self, ↓reduceIte, Nat.reduceEqDiff, Int.reduceAdd, Int.reduceSub]
  refine ifB_dec (fun h => ?_) (fun h => ?_)
  · simp (disch := first | omega | assumption | (simp only [tab_len, List.length_cons, List.length_append, List.length_set, List.length_nil, List.length_replicate, List.length_map, one_int, one_bool, one_slice, one_upd, one_lay, one_if, one_c, one_by8, one_row, one_sq, one_grp, nums_len, one_alg, one_num, one_boolF, one_pair, one_zP] <;> omega) | fail) only [go_sem, eq_self, ↓reduceIte, Nat.reduceEqDiff, Int.reduceAdd, Int.reduceSub]
    refine up_plain ?_ (fun _ => rfl) rfl
    unfold szT; rw [if_pos (by omega)]
  · simp (disch := first | omega | assumption | (simp only [tab_len, List.length_cons, List.length_append, List.length_set, List.length_nil, List.length_replicate, List.length_map, one_int, one_bool, one_slice, one_upd, one_lay, one_if, one_c, one_by8, one_row, one_sq, one_grp, nums_len, one_alg, one_num, one_boolF, one_pair, one_zP] <;> omega) | fail) only [go_sem, eq_self, ↓reduceIte, Nat.reduceEqDiff, Int.reduceAdd, Int.reduceSub]
    refine vc_up L.length 0 (fun i env M ψ => ψ = none' ∧ env 5 = .int .i64 i ∧ env 1 = .int .i64 (1048576 - L.length - lens L i) ∧ (0 : Int) ≤ 1048576 - L.length - lens L i) (by omega) ?_ ?_
    · refine ⟨rfl, ?_, ?_, ?_⟩
      · simp (disch := first | omega | assumption | (simp only [tab_len, List.length_cons, List.length_append, List.length_set, List.length_nil, List.length_replicate, List.length_map, one_int, one_bool, one_slice, one_upd, one_lay, one_if, one_c, one_by8, one_row, one_sq, one_grp, nums_len, one_alg, one_num, one_boolF, one_pair, one_zP] <;> omega) | fail) only [go_sem, eq_self, ↓reduceIte, Nat.reduceEqDiff, Int.reduceAdd, Int.reduceSub]
      · simp (disch := first | omega | assumption | (simp only [tab_len, List.length_cons, List.length_append, List.length_set, List.length_nil, List.length_replicate, List.length_map, one_int, one_bool, one_slice, one_upd, one_lay, one_if, one_c, one_by8, one_row, one_sq, one_grp, nums_len, one_alg, one_num, one_boolF, one_pair, one_zP] <;> omega) | fail) only [go_sem, eq_self, ↓reduceIte, Nat.reduceEqDiff, Int.reduceAdd, Int.reduceSub]
        simp [lens]
      · simp [lens]; omega
    · rintro i env M ψ hi hf - ap ⟨rfl, e5, e1, hpos⟩ K hK
      have e0 := hf 0 (by kernel_rfl)
      simp (disch := first | omega | assumption | (simp only [tab_len, List.length_cons, List.length_append, List.length_set, List.length_nil, List.length_replicate, List.length_map, one_int, one_bool, one_slice, one_upd, one_lay, one_if, one_c, one_by8, one_row, one_sq, one_grp, nums_len, one_alg, one_num, one_boolF, one_pair, one_zP] <;> omega) | fail) only [go_sem, eq_self, ↓reduceIte, Nat.reduceEqDiff, Int.reduceAdd, Int.reduceSub] at e0
      simp (disch := first | omega | assumption | (simp only [tab_len, List.length_cons, List.length_append, List.length_set, List.length_nil, List.length_replicate, List.length_map, one_int, one_bool, one_slice, one_upd, one_lay, one_if, one_c, one_by8, one_row, one_sq, one_grp, nums_len, one_alg, one_num, one_boolF, one_pair, one_zP] <;> omega) | fail) only [go_sem, eq_self, ↓reduceIte, Nat.reduceEqDiff, Int.reduceAdd, Int.reduceSub, e0, e5]
      refine ifB_dec (fun h3 => ?_) (fun h3 => ?_)
      · obtain ⟨b, o, T, cs, tt, u, rfl, hA, hcell, hCi⟩ := hC i (by omega)
        have hap := (ap b _).1 hA
        have hs := lens_succ L i (by omega)
        simp (disch := first | omega | assumption | (simp only [tab_len, List.length_cons, List.length_append, List.length_set, List.length_nil, List.length_replicate, List.length_map, one_int, one_bool, one_slice, one_upd, one_lay, one_if, one_c, one_by8, one_row, one_sq, one_grp, nums_len, one_alg, one_num, one_boolF, one_pair, one_zP] <;> omega) | fail) only [go_sem, eq_self, ↓reduceIte, Nat.reduceEqDiff, Int.reduceAdd, Int.reduceSub, e0, e1, e5, hap.1, hA, hcell]
        refine callB_gives (law_sz _ u _ _ (by omega) (hCi.mono (le_all ap))) ?_
        simp (disch := first | omega | assumption | (simp only [tab_len, List.length_cons, List.length_append, List.length_set, List.length_nil, List.length_replicate, List.length_map, one_int, one_bool, one_slice, one_upd, one_lay, one_if, one_c, one_by8, one_row, one_sq, one_grp, nums_len, one_alg, one_num, one_boolF, one_pair, one_zP] <;> omega) | fail) only [go_sem, eq_self, ↓reduceIte, Nat.reduceEqDiff, Int.reduceAdd, Int.reduceSub]
        refine ifB_dec (fun h4 => ?_) (fun h4 => ?_)
        · unfold szL at h4
          have h4 : (1048576 : Int) - L.length - lens L i - ((L.getD i []).length : Nat) < 0 := by split at h4 <;> omega
          simp (disch := first | omega | assumption | (simp only [tab_len, List.length_cons, List.length_append, List.length_set, List.length_nil, List.length_replicate, List.length_map, one_int, one_bool, one_slice, one_upd, one_lay, one_if, one_c, one_by8, one_row, one_sq, one_grp, nums_len, one_alg, one_num, one_boolF, one_pair, one_zP] <;> omega) | fail) only [go_sem, eq_self, ↓reduceIte, Nat.reduceEqDiff, Int.reduceAdd, Int.reduceSub]
          refine up_plain ?_ (fun _ => rfl) rfl
          have := lens_mono L (i + 1) L.length (by omega) (by omega)
          unfold szT; rw [if_pos (by omega)]
        · have h4 : ¬ (1048576 : Int) - L.length - lens L i - ((L.getD i []).length : Nat) < 0 := by unfold szL at h4; split at h4 <;> omega
          simp (disch := first | omega | assumption | (simp only [tab_len, List.length_cons, List.length_append, List.length_set, List.length_nil, List.length_replicate, List.length_map, one_int, one_bool, one_slice, one_upd, one_lay, one_if, one_c, one_by8, one_row, one_sq, one_grp, nums_len, one_alg, one_num, one_boolF, one_pair, one_zP] <;> omega) | fail) only [go_sem, eq_self, ↓reduceIte, Nat.reduceEqDiff, Int.reduceAdd, Int.reduceSub, e5]
          refine hK _ _ _ (by omega) (Up.here ⟨rfl, ?_, ?_, by omega⟩)
          · simp (disch := first | omega | assumption | (simp only [tab_len, List.length_cons, List.length_append, List.length_set, List.length_nil, List.length_replicate, List.length_map, one_int, one_bool, one_slice, one_upd, one_lay, one_if, one_c, one_by8, one_row, one_sq, one_grp, nums_len, one_alg, one_num, one_boolF, one_pair, one_zP] <;> omega) | fail) only [go_sem, eq_self, ↓reduceIte, Nat.reduceEqDiff, Int.reduceAdd, Int.reduceSub]
          · (simp (disch := first | omega | assumption | (simp only [tab_len, List.length_cons, List.length_append, List.length_set, List.length_nil, List.length_replicate, List.length_map, one_int, one_bool, one_slice, one_upd, one_lay, one_if, one_c, one_by8, one_row, one_sq, one_grp, nums_len, one_alg, one_num, one_boolF, one_pair, one_zP] <;> omega) | fail) only [go_sem, eq_self, ↓reduceIte, Nat.reduceEqDiff, Int.reduceAdd, Int.reduceSub, hs]); unfold szL; rw [if_neg h4]; congr 1; omega
      · have : i = L.length := by omega
        subst this
        simp (disch := first | omega | assumption | (simp only [tab_len, List.length_cons, List.length_append, List.length_set, List.length_nil, List.length_replicate, List.length_map, one_int, one_bool, one_slice, one_upd, one_lay, one_if, one_c, one_by8, one_row, one_sq, one_grp, nums_len, one_alg, one_num, one_boolF, one_pair, one_zP] <;> omega) | fail) only [go_sem, eq_self, ↓reduceIte, Nat.reduceEqDiff, Int.reduceAdd, Int.reduceSub, e1]
        refine up_plain ?_ (fun _ => rfl) rfl
        unfold szT; rw [if_neg (by omega)]
/-- A copy of numbers, of one's own. -/
def CopyL (M : Mem) (s : Value) (l : List Int) : Prop := ∃ b : Nat, s = .slice (some ⟨b, 0, none⟩) l.length l.length ∧ M = upd none' b (some ⟨2, nums l, l.length⟩)
theorem law_to (κ : Mem) (v : Value) (l : List Int) (hl : l.length ≤ 1048576) (hv : Row κ v l) : CallsX Try.prog 31 #[v] none' κ (fun r M ψ => CopyL M r l) := by
  obtain ⟨p, c, rfl, h1, h2, hC⟩ := hv
  have hml := maxLen_lt
  refine run_of (rs := [.tmp 2]) (args := [.slice p l.length c]) mixed Try.func31 rfl ok31 (by kernel_rfl) (by show 1 ≤ _; decide) rfl ?_
  simp (disch := first | omega | assumption | (simp only [tab_len, List.length_cons, List.length_append, List.length_set, List.length_nil, List.length_replicate, List.length_map, one_int, one_bool, one_slice, one_upd, one_lay, one_if, one_c, one_by8, one_row, one_sq, one_grp, nums_len, one_alg, one_num, one_boolF, one_pair, one_zP] <;> omega) | fail) only [go_sem, eq_self, ↓reduceIte, Nat.reduceEqDiff, Int.reduceAdd, Int.reduceSub]
  rw [makeS_one Try.underlying41 z2 c2 (b := 8) (by kernel_rfl) (by omega) (by omega)]
  simp (disch := first | omega | assumption | (simp only [tab_len, List.length_cons, List.length_append, List.length_set, List.length_nil, List.length_replicate, List.length_map, one_int, one_bool, one_slice, one_upd, one_lay, one_if, one_c, one_by8, one_row, one_sq, one_grp, nums_len, one_alg, one_num, one_boolF, one_pair, one_zP] <;> omega) | fail) only [go_sem, eq_self, ↓reduceIte, Nat.reduceEqDiff, Int.reduceAdd, Int.reduceSub]
  refine anew_intro fun q q1 q2 q3 => ?_
  have q0 := q1
  try simp only [upd_none] at q0
  simp (disch := first | omega | assumption | (simp only [tab_len, List.length_cons, List.length_append, List.length_set, List.length_nil, List.length_replicate, List.length_map, one_int, one_bool, one_slice, one_upd, one_lay, one_if, one_c, one_by8, one_row, one_sq, one_grp, nums_len, one_alg, one_num, one_boolF, one_pair, one_zP] <;> omega) | fail) only [go_sem, eq_self, ↓reduceIte, Nat.reduceEqDiff, Int.reduceAdd, Int.reduceSub]
  refine vc_up l.length 0 (fun i env M ψ => none' = ψ ∧ env 4 = .int .i64 i ∧ ∃ h : Nat → Value, M q = some ⟨2, tab l.length h, l.length⟩ ∧ ∀ k < i, h k = i64 (l.getD k 0)) (by omega) ?_ ?_
  · refine ⟨rfl, ?_, fun _ => .int .i64 0, ?_, fun k hk => by omega⟩
    · simp (disch := first | omega | assumption | (simp only [tab_len, List.length_cons, List.length_append, List.length_set, List.length_nil, List.length_replicate, List.length_map, one_int, one_bool, one_slice, one_upd, one_lay, one_if, one_c, one_by8, one_row, one_sq, one_grp, nums_len, one_alg, one_num, one_boolF, one_pair, one_zP] <;> omega) | fail) only [go_sem, eq_self, ↓reduceIte, Nat.reduceEqDiff, Int.reduceAdd, Int.reduceSub]
    · rw [upd_same, tab_len]
  · rintro i env M ψ hi hf - ap ⟨rfl, e4, h, hq, hh⟩ K hK
    have e0 := hf 0 (by kernel_rfl)
    have e3 := hf 3 (by kernel_rfl)
    simp (disch := first | omega | assumption | (simp only [tab_len, List.length_cons, List.length_append, List.length_set, List.length_nil, List.length_replicate, List.length_map, one_int, one_bool, one_slice, one_upd, one_lay, one_if, one_c, one_by8, one_row, one_sq, one_grp, nums_len, one_alg, one_num, one_boolF, one_pair, one_zP] <;> omega) | fail) only [go_sem, eq_self, ↓reduceIte, Nat.reduceEqDiff, Int.reduceAdd, Int.reduceSub] at e0
    simp (disch := first | omega | assumption | (simp only [tab_len, List.length_cons, List.length_append, List.length_set, List.length_nil, List.length_replicate, List.length_map, one_int, one_bool, one_slice, one_upd, one_lay, one_if, one_c, one_by8, one_row, one_sq, one_grp, nums_len, one_alg, one_num, one_boolF, one_pair, one_zP] <;> omega) | fail) only [go_sem, eq_self, ↓reduceIte, Nat.reduceEqDiff, Int.reduceAdd, Int.reduceSub] at e3
    simp (disch := first | omega | assumption | (simp only [tab_len, List.length_cons, List.length_append, List.length_set, List.length_nil, List.length_replicate, List.length_map, one_int, one_bool, one_slice, one_upd, one_lay, one_if, one_c, one_by8, one_row, one_sq, one_grp, nums_len, one_alg, one_num, one_boolF, one_pair, one_zP] <;> omega) | fail) only [go_sem, eq_self, ↓reduceIte, Nat.reduceEqDiff, Int.reduceAdd, Int.reduceSub, e0, e4]
    refine ifB_dec (fun h3 => ?_) (fun h3 => ?_)
    · obtain ⟨b, o, T, cs, tt, u, rfl, hA, hcell, rfl⟩ := hC i (by omega)
      have hap := (ap b _).1 hA
      simp (disch := first | omega | assumption | (simp only [tab_len, List.length_cons, List.length_append, List.length_set, List.length_nil, List.length_replicate, List.length_map, one_int, one_bool, one_slice, one_upd, one_lay, one_if, one_c, one_by8, one_row, one_sq, one_grp, nums_len, one_alg, one_num, one_boolF, one_pair, one_zP] <;> omega) | fail) only [go_sem, eq_self, ↓reduceIte, Nat.reduceEqDiff, Int.reduceAdd, Int.reduceSub, e0, e3, e4, hap.1, hA, hcell, hq]
      refine hK _ _ _ (by omega) (Up.here ⟨rfl, ?_, upd h i (i64 (l.getD i 0)), ?_, fun k hk => ?_⟩)
      · simp (disch := first | omega | assumption | (simp only [tab_len, List.length_cons, List.length_append, List.length_set, List.length_nil, List.length_replicate, List.length_map, one_int, one_bool, one_slice, one_upd, one_lay, one_if, one_c, one_by8, one_row, one_sq, one_grp, nums_len, one_alg, one_num, one_boolF, one_pair, one_zP] <;> omega) | fail) only [go_sem, eq_self, ↓reduceIte, Nat.reduceEqDiff, Int.reduceAdd, Int.reduceSub]
      · rw [upd_same]
      · by_cases hki : k = i
        · subst hki; rw [upd_same]
        · rw [upd_ne hki]; exact hh k (by omega)
    · have : i = l.length := by omega
      subst this
      simp (disch := first | omega | assumption | (simp only [tab_len, List.length_cons, List.length_append, List.length_set, List.length_nil, List.length_replicate, List.length_map, one_int, one_bool, one_slice, one_upd, one_lay, one_if, one_c, one_by8, one_row, one_sq, one_grp, nums_len, one_alg, one_num, one_boolF, one_pair, one_zP] <;> omega) | fail) only [go_sem, eq_self, ↓reduceIte, Nat.reduceEqDiff, Int.reduceAdd, Int.reduceSub, e3]
      have e : tab l.length h = nums l := by
        rw [tab_eq hh]
        refine (tab_ext (m := 0) (nums_len l) fun k hk => nums_get l k hk).symm
      refine Up.drop (M' := upd none' q (some ⟨2, nums l, l.length⟩)) (fun k x hk => ?_) ⟨q, rfl, rfl⟩
      by_cases hkq : k = q
      · subst hkq; rw [upd_same] at hk; rw [hq, e]; exact hk
      · rw [upd_ne hkq] at hk; cases hk
/-- A copy of rows, of one's own. -/
structure CopyT (M : Mem) (s : Value) (L : List (List Int)) (q : Nat) (B : Nat → Nat) : Prop where
  v : s = .slice (some ⟨q, 0, none⟩) L.length L.length
  out : M q = some ⟨41, tab L.length fun k => .slice (some ⟨B k, 0, none⟩) (L.getD k []).length (L.getD k []).length, L.length⟩
  row : ∀ k < L.length, M (B k) = some ⟨2, nums (L.getD k []), (L.getD k []).length⟩
  ne : ∀ k < L.length, B k ≠ q
  inj : ∀ k < L.length, ∀ k' < L.length, k ≠ k' → B k ≠ B k'
theorem law_tos (κ : Mem) (v : Value) (L : List (List Int)) (hl : L.length ≤ 1048576) (hr : ∀ k < L.length, (L.getD k []).length ≤ 1048576) (hv : Tbl κ v L) :
    CallsX Try.prog 11 #[v] none' κ (fun r M ψ => ∃ q B, CopyT M r L q B) := by
  obtain ⟨p, c, rfl, h1, h2, hC⟩ := hv
  have hml := maxLen_lt
  refine run_of (rs := [.tmp 2]) (args := [.slice p L.length c]) mixed Try.func11 rfl ok11 (by kernel_rfl) (by show 1 ≤ _; decide) rfl ?_
  simp (disch := first | omega | assumption | (simp only [tab_len, List.length_cons, List.length_append, List.length_set, List.length_nil, List.length_replicate, List.length_map, one_int, one_bool, one_slice, one_upd, one_lay, one_if, one_c, one_by8, one_row, one_sq, one_grp, nums_len, one_alg, one_num, one_boolF, one_pair, one_zP] <;> omega) | fail) only [go_sem, eq_self, ↓reduceIte, Nat.reduceEqDiff, Int.reduceAdd, Int.reduceSub]
  rw [makeS_one Try.underlying39 z41 c41 (b := 24) (by kernel_rfl) (by omega) (by omega)]
  simp (disch := first | omega | assumption | (simp only [tab_len, List.length_cons, List.length_append, List.length_set, List.length_nil, List.length_replicate, List.length_map, one_int, one_bool, one_slice, one_upd, one_lay, one_if, one_c, one_by8, one_row, one_sq, one_grp, nums_len, one_alg, one_num, one_boolF, one_pair, one_zP] <;> omega) | fail) only [go_sem, eq_self, ↓reduceIte, Nat.reduceEqDiff, Int.reduceAdd, Int.reduceSub]
  refine anew_intro fun q q1 q2 q3 => ?_
  have q0 := q1
  try simp only [upd_none] at q0
  simp (disch := first | omega | assumption | (simp only [tab_len, List.length_cons, List.length_append, List.length_set, List.length_nil, List.length_replicate, List.length_map, one_int, one_bool, one_slice, one_upd, one_lay, one_if, one_c, one_by8, one_row, one_sq, one_grp, nums_len, one_alg, one_num, one_boolF, one_pair, one_zP] <;> omega) | fail) only [go_sem, eq_self, ↓reduceIte, Nat.reduceEqDiff, Int.reduceAdd, Int.reduceSub]
  refine vc_up L.length 0 (fun i env M ψ => env 4 = .int .i64 i ∧ ∃ (h : Nat → Value) (B : Nat → Nat), M q = some ⟨41, tab L.length h, L.length⟩ ∧ (∀ k < i, h k = .slice (some ⟨B k, 0, none⟩) (L.getD k []).length (L.getD k []).length) ∧
    (∀ k < i, M (B k) = some ⟨2, nums (L.getD k []), (L.getD k []).length⟩) ∧ (∀ k < i, B k ≠ q) ∧ ∀ k < i, ∀ k' < i, k ≠ k' → B k ≠ B k') (by omega) ?_ ?_
  · refine ⟨?_, fun _ => .slice none 0 0, fun _ => 0, ?_, fun k hk => by omega, fun k hk => by omega, fun k hk => by omega, fun k hk => by omega⟩
    · simp (disch := first | omega | assumption | (simp only [tab_len, List.length_cons, List.length_append, List.length_set, List.length_nil, List.length_replicate, List.length_map, one_int, one_bool, one_slice, one_upd, one_lay, one_if, one_c, one_by8, one_row, one_sq, one_grp, nums_len, one_alg, one_num, one_boolF, one_pair, one_zP] <;> omega) | fail) only [go_sem, eq_self, ↓reduceIte, Nat.reduceEqDiff, Int.reduceAdd, Int.reduceSub]
    · rw [upd_same, tab_len]
  · rintro i env M ψ hi hf - ap ⟨e4, h, B, hq, hh, hB, hne, hinj⟩ K hK
    have e0 := hf 0 (by kernel_rfl)
    have e3 := hf 3 (by kernel_rfl)
    simp (disch := first | omega | assumption | (simp only [tab_len, List.length_cons, List.length_append, List.length_set, List.length_nil, List.length_replicate, List.length_map, one_int, one_bool, one_slice, one_upd, one_lay, one_if, one_c, one_by8, one_row, one_sq, one_grp, nums_len, one_alg, one_num, one_boolF, one_pair, one_zP] <;> omega) | fail) only [go_sem, eq_self, ↓reduceIte, Nat.reduceEqDiff, Int.reduceAdd, Int.reduceSub] at e0
    simp (disch := first | omega | assumption | (simp only [tab_len, List.length_cons, List.length_append, List.length_set, List.length_nil, List.length_replicate, List.length_map, one_int, one_bool, one_slice, one_upd, one_lay, one_if, one_c, one_by8, one_row, one_sq, one_grp, nums_len, one_alg, one_num, one_boolF, one_pair, one_zP] <;> omega) | fail) only [go_sem, eq_self, ↓reduceIte, Nat.reduceEqDiff, Int.reduceAdd, Int.reduceSub] at e3
    simp (disch := first | omega | assumption | (simp only [tab_len, List.length_cons, List.length_append, List.length_set, List.length_nil, List.length_replicate, List.length_map, one_int, one_bool, one_slice, one_upd, one_lay, one_if, one_c, one_by8, one_row, one_sq, one_grp, nums_len, one_alg, one_num, one_boolF, one_pair, one_zP] <;> omega) | fail) only [go_sem, eq_self, ↓reduceIte, Nat.reduceEqDiff, Int.reduceAdd, Int.reduceSub, e0, e4]
    refine ifB_dec (fun h3 => ?_) (fun h3 => ?_)
    · obtain ⟨b, o, T, cs, tt, u, rfl, hA, hcell, hCi⟩ := hC i (by omega)
      have hap := (ap b _).1 hA
      simp (disch := first | omega | assumption | (simp only [tab_len, List.length_cons, List.length_append, List.length_set, List.length_nil, List.length_replicate, List.length_map, one_int, one_bool, one_slice, one_upd, one_lay, one_if, one_c, one_by8, one_row, one_sq, one_grp, nums_len, one_alg, one_num, one_boolF, one_pair, one_zP] <;> omega) | fail) only [go_sem, eq_self, ↓reduceIte, Nat.reduceEqDiff, Int.reduceAdd, Int.reduceSub, e0, e3, e4, hap.1, hap.2, hA, hcell]
      refine callB_own (law_to _ u _ (hr i (by omega)) (hCi.mono (le_all ap))) ?_
      rintro r M' ψ' ⟨g, rfl, rfl⟩ hfr
      have hg : M g = none := by
        cases hm : M g with
        | none => rfl
        | some x => have := (hfr g (.inl (by simp [hm]))).1; rw [upd_same] at this; cases this
      have hgq : g ≠ q := fun e => by rw [e, hq] at hg; cases hg
      have hgB : ∀ k < i, g ≠ B k := fun k hk e => by rw [e, hB k hk] at hg; cases hg
      rw [over_one hg]
      simp (disch := first | omega | assumption | (simp only [tab_len, List.length_cons, List.length_append, List.length_set, List.length_nil, List.length_replicate, List.length_map, one_int, one_bool, one_slice, one_upd, one_lay, one_if, one_c, one_by8, one_row, one_sq, one_grp, nums_len, one_alg, one_num, one_boolF, one_pair, one_zP] <;> omega) | fail) only [go_sem, eq_self, ↓reduceIte, Nat.reduceEqDiff, Int.reduceAdd, Int.reduceSub, e3, e4, hq]
      refine hK _ _ _ (by omega) (Up.here ⟨?_, upd h i (.slice (some ⟨g, 0, none⟩) (L.getD i []).length (L.getD i []).length), upd B i g, ?_, fun k hk => ?_, fun k hk => ?_, fun k hk => ?_, fun k hk k' hk' hkk => ?_⟩)
      · simp (disch := first | omega | assumption | (simp only [tab_len, List.length_cons, List.length_append, List.length_set, List.length_nil, List.length_replicate, List.length_map, one_int, one_bool, one_slice, one_upd, one_lay, one_if, one_c, one_by8, one_row, one_sq, one_grp, nums_len, one_alg, one_num, one_boolF, one_pair, one_zP] <;> omega) | fail) only [go_sem, eq_self, ↓reduceIte, Nat.reduceEqDiff, Int.reduceAdd, Int.reduceSub]
      · rw [upd_same]
      · by_cases hki : k = i
        · subst hki; rw [upd_same, upd_same]
        · rw [upd_ne hki, upd_ne hki]; exact hh k (by omega)
      · by_cases hki : k = i
        · subst hki; rw [upd_same, upd_ne hgq, upd_same]
        · rw [upd_ne (f := B) hki, upd_ne (hne k (by omega)), upd_ne (Ne.symm (hgB k (by omega)))]; exact hB k (by omega)
      · by_cases hki : k = i
        · subst hki; rw [upd_same]; exact hgq
        · rw [upd_ne hki]; exact hne k (by omega)
      · by_cases hki : k = i
        · subst hki; rw [upd_same, upd_ne (Ne.symm hkk)]; exact hgB k' (by omega)
        · rw [upd_ne hki]
          by_cases hki' : k' = i
          · subst hki'; rw [upd_same]; exact Ne.symm (hgB k (by omega))
          · rw [upd_ne hki']; exact hinj k (by omega) k' (by omega) hkk
    · have : i = L.length := by omega
      subst this
      simp (disch := first | omega | assumption | (simp only [tab_len, List.length_cons, List.length_append, List.length_set, List.length_nil, List.length_replicate, List.length_map, one_int, one_bool, one_slice, one_upd, one_lay, one_if, one_c, one_by8, one_row, one_sq, one_grp, nums_len, one_alg, one_num, one_boolF, one_pair, one_zP] <;> omega) | fail) only [go_sem, eq_self, ↓reduceIte, Nat.reduceEqDiff, Int.reduceAdd, Int.reduceSub, e3]
      exact Up.here ⟨q, B, rfl, by rw [hq, tab_eq hh], hB, hne, hinj⟩
end Go.Proofs.Ytbenllhoofoahaa

