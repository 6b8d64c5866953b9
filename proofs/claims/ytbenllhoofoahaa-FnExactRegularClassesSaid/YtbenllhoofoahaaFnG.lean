/- Sorting: the length of a number in bits, and slices.Sort. -/
import Derived.Test.YtbenllhoofoahaaFnF
namespace Go.Proofs.Ytbenllhoofoahaa
set_option linter.unusedSimpArgs false
set_option linter.unusedVariables false
set_option maxRecDepth 100000
open Go Go.Vc
theorem bindV_of {o : Option Value} {v : Value} {F : Value → Mem → Mem → Prop} {M ψ : Mem} (h : o = some v) (hk : F v M ψ) : @bindV o ⟨F⟩ M ψ := ⟨v, h, hk⟩
theorem fn_len64 (κ : Mem) (n : Nat) (hn : n ≤ 6) : ∃ v : Int, (0 ≤ v ∧ v ≤ 64) ∧ Gives Try.prog 79 [.int .u64 n] κ (i64 v) := by
  rcases (by omega : n = 0 ∨ n = 1 ∨ n = 2 ∨ n = 3 ∨ n = 4 ∨ n = 5 ∨ n = 6) with rfl | rfl | rfl | rfl | rfl | rfl | rfl
  · refine ⟨0, by omega, ?_⟩
    have h1 : ¬ (4294967296 : Int) ≤ (0 : Int) := by decide
    have h2 : ¬ (65536 : Int) ≤ (0 : Int) := by decide
    have h3 : ¬ (256 : Int) ≤ (0 : Int) := by decide
    refine gives_of (rs := [.tmp 2]) mixed Try.func79 rfl ok79 (by kernel_rfl) (by show 1 ≤ _; decide) rfl ?_
    simp (disch := first | omega | assumption | (simp only [tab_len, List.length_cons, List.length_append, List.length_set, List.length_nil, List.length_replicate, List.length_map, one_int, one_bool, one_slice, one_upd, one_lay, one_if, one_c, one_by8, one_row, one_sq, one_grp, nums_len, one_alg, one_num] <;> omega)) only [go_sem, ↓reduceIte, Nat.reduceEqDiff, Int.reduceAdd, Int.reduceSub]
    simp (disch := first | omega | assumption | (simp only [tab_len, List.length_cons, List.length_append, List.length_set, List.length_nil, List.length_replicate, List.length_map, one_int, one_bool, one_slice, one_upd, one_lay, one_if, one_c, one_by8, one_row, one_sq, one_grp, nums_len, one_alg, one_num] <;> omega)) only [go_sem, ↓reduceIte, Nat.reduceEqDiff, Int.reduceAdd, Int.reduceSub, h1, h2, h3]
    refine bindV_of (v := .int .u8 0) (by kernel_rfl) ?_
    simp (disch := first | omega | assumption | (simp only [tab_len, List.length_cons, List.length_append, List.length_set, List.length_nil, List.length_replicate, List.length_map, one_int, one_bool, one_slice, one_upd, one_lay, one_if, one_c, one_by8, one_row, one_sq, one_grp, nums_len, one_alg, one_num] <;> omega)) only [go_sem, ↓reduceIte, Nat.reduceEqDiff, Int.reduceAdd, Int.reduceSub]
    refine up_plain ?_ (fun _ => rfl) rfl
    rfl
  · refine ⟨1, by omega, ?_⟩
    have h1 : ¬ (4294967296 : Int) ≤ (1 : Int) := by decide
    have h2 : ¬ (65536 : Int) ≤ (1 : Int) := by decide
    have h3 : ¬ (256 : Int) ≤ (1 : Int) := by decide
    refine gives_of (rs := [.tmp 2]) mixed Try.func79 rfl ok79 (by kernel_rfl) (by show 1 ≤ _; decide) rfl ?_
    simp (disch := first | omega | assumption | (simp only [tab_len, List.length_cons, List.length_append, List.length_set, List.length_nil, List.length_replicate, List.length_map, one_int, one_bool, one_slice, one_upd, one_lay, one_if, one_c, one_by8, one_row, one_sq, one_grp, nums_len, one_alg, one_num] <;> omega)) only [go_sem, ↓reduceIte, Nat.reduceEqDiff, Int.reduceAdd, Int.reduceSub]
    simp (disch := first | omega | assumption | (simp only [tab_len, List.length_cons, List.length_append, List.length_set, List.length_nil, List.length_replicate, List.length_map, one_int, one_bool, one_slice, one_upd, one_lay, one_if, one_c, one_by8, one_row, one_sq, one_grp, nums_len, one_alg, one_num] <;> omega)) only [go_sem, ↓reduceIte, Nat.reduceEqDiff, Int.reduceAdd, Int.reduceSub, h1, h2, h3]
    refine bindV_of (v := .int .u8 1) (by kernel_rfl) ?_
    simp (disch := first | omega | assumption | (simp only [tab_len, List.length_cons, List.length_append, List.length_set, List.length_nil, List.length_replicate, List.length_map, one_int, one_bool, one_slice, one_upd, one_lay, one_if, one_c, one_by8, one_row, one_sq, one_grp, nums_len, one_alg, one_num] <;> omega)) only [go_sem, ↓reduceIte, Nat.reduceEqDiff, Int.reduceAdd, Int.reduceSub]
    refine up_plain ?_ (fun _ => rfl) rfl
    rfl
  · refine ⟨2, by omega, ?_⟩
    have h1 : ¬ (4294967296 : Int) ≤ ((2 : Nat) : Int) := by decide
    have h2 : ¬ (65536 : Int) ≤ ((2 : Nat) : Int) := by decide
    have h3 : ¬ (256 : Int) ≤ ((2 : Nat) : Int) := by decide
    refine gives_of (rs := [.tmp 2]) mixed Try.func79 rfl ok79 (by kernel_rfl) (by show 1 ≤ _; decide) rfl ?_
    simp (disch := first | omega | assumption | (simp only [tab_len, List.length_cons, List.length_append, List.length_set, List.length_nil, List.length_replicate, List.length_map, one_int, one_bool, one_slice, one_upd, one_lay, one_if, one_c, one_by8, one_row, one_sq, one_grp, nums_len, one_alg, one_num] <;> omega)) only [go_sem, ↓reduceIte, Nat.reduceEqDiff, Int.reduceAdd, Int.reduceSub]
    simp (disch := first | omega | assumption | (simp only [tab_len, List.length_cons, List.length_append, List.length_set, List.length_nil, List.length_replicate, List.length_map, one_int, one_bool, one_slice, one_upd, one_lay, one_if, one_c, one_by8, one_row, one_sq, one_grp, nums_len, one_alg, one_num] <;> omega)) only [go_sem, ↓reduceIte, Nat.reduceEqDiff, Int.reduceAdd, Int.reduceSub, h1, h2, h3]
    refine bindV_of (v := .int .u8 2) (by kernel_rfl) ?_
    simp (disch := first | omega | assumption | (simp only [tab_len, List.length_cons, List.length_append, List.length_set, List.length_nil, List.length_replicate, List.length_map, one_int, one_bool, one_slice, one_upd, one_lay, one_if, one_c, one_by8, one_row, one_sq, one_grp, nums_len, one_alg, one_num] <;> omega)) only [go_sem, ↓reduceIte, Nat.reduceEqDiff, Int.reduceAdd, Int.reduceSub]
    refine up_plain ?_ (fun _ => rfl) rfl
    rfl
  · refine ⟨2, by omega, ?_⟩
    have h1 : ¬ (4294967296 : Int) ≤ ((3 : Nat) : Int) := by decide
    have h2 : ¬ (65536 : Int) ≤ ((3 : Nat) : Int) := by decide
    have h3 : ¬ (256 : Int) ≤ ((3 : Nat) : Int) := by decide
    refine gives_of (rs := [.tmp 2]) mixed Try.func79 rfl ok79 (by kernel_rfl) (by show 1 ≤ _; decide) rfl ?_
    simp (disch := first | omega | assumption | (simp only [tab_len, List.length_cons, List.length_append, List.length_set, List.length_nil, List.length_replicate, List.length_map, one_int, one_bool, one_slice, one_upd, one_lay, one_if, one_c, one_by8, one_row, one_sq, one_grp, nums_len, one_alg, one_num] <;> omega)) only [go_sem, ↓reduceIte, Nat.reduceEqDiff, Int.reduceAdd, Int.reduceSub]
    simp (disch := first | omega | assumption | (simp only [tab_len, List.length_cons, List.length_append, List.length_set, List.length_nil, List.length_replicate, List.length_map, one_int, one_bool, one_slice, one_upd, one_lay, one_if, one_c, one_by8, one_row, one_sq, one_grp, nums_len, one_alg, one_num] <;> omega)) only [go_sem, ↓reduceIte, Nat.reduceEqDiff, Int.reduceAdd, Int.reduceSub, h1, h2, h3]
    refine bindV_of (v := .int .u8 2) (by kernel_rfl) ?_
    simp (disch := first | omega | assumption | (simp only [tab_len, List.length_cons, List.length_append, List.length_set, List.length_nil, List.length_replicate, List.length_map, one_int, one_bool, one_slice, one_upd, one_lay, one_if, one_c, one_by8, one_row, one_sq, one_grp, nums_len, one_alg, one_num] <;> omega)) only [go_sem, ↓reduceIte, Nat.reduceEqDiff, Int.reduceAdd, Int.reduceSub]
    refine up_plain ?_ (fun _ => rfl) rfl
    rfl
  · refine ⟨3, by omega, ?_⟩
    have h1 : ¬ (4294967296 : Int) ≤ ((4 : Nat) : Int) := by decide
    have h2 : ¬ (65536 : Int) ≤ ((4 : Nat) : Int) := by decide
    have h3 : ¬ (256 : Int) ≤ ((4 : Nat) : Int) := by decide
    refine gives_of (rs := [.tmp 2]) mixed Try.func79 rfl ok79 (by kernel_rfl) (by show 1 ≤ _; decide) rfl ?_
    simp (disch := first | omega | assumption | (simp only [tab_len, List.length_cons, List.length_append, List.length_set, List.length_nil, List.length_replicate, List.length_map, one_int, one_bool, one_slice, one_upd, one_lay, one_if, one_c, one_by8, one_row, one_sq, one_grp, nums_len, one_alg, one_num] <;> omega)) only [go_sem, ↓reduceIte, Nat.reduceEqDiff, Int.reduceAdd, Int.reduceSub]
    simp (disch := first | omega | assumption | (simp only [tab_len, List.length_cons, List.length_append, List.length_set, List.length_nil, List.length_replicate, List.length_map, one_int, one_bool, one_slice, one_upd, one_lay, one_if, one_c, one_by8, one_row, one_sq, one_grp, nums_len, one_alg, one_num] <;> omega)) only [go_sem, ↓reduceIte, Nat.reduceEqDiff, Int.reduceAdd, Int.reduceSub, h1, h2, h3]
    refine bindV_of (v := .int .u8 3) (by kernel_rfl) ?_
    simp (disch := first | omega | assumption | (simp only [tab_len, List.length_cons, List.length_append, List.length_set, List.length_nil, List.length_replicate, List.length_map, one_int, one_bool, one_slice, one_upd, one_lay, one_if, one_c, one_by8, one_row, one_sq, one_grp, nums_len, one_alg, one_num] <;> omega)) only [go_sem, ↓reduceIte, Nat.reduceEqDiff, Int.reduceAdd, Int.reduceSub]
    refine up_plain ?_ (fun _ => rfl) rfl
    rfl
  · refine ⟨3, by omega, ?_⟩
    have h1 : ¬ (4294967296 : Int) ≤ ((5 : Nat) : Int) := by decide
    have h2 : ¬ (65536 : Int) ≤ ((5 : Nat) : Int) := by decide
    have h3 : ¬ (256 : Int) ≤ ((5 : Nat) : Int) := by decide
    refine gives_of (rs := [.tmp 2]) mixed Try.func79 rfl ok79 (by kernel_rfl) (by show 1 ≤ _; decide) rfl ?_
    simp (disch := first | omega | assumption | (simp only [tab_len, List.length_cons, List.length_append, List.length_set, List.length_nil, List.length_replicate, List.length_map, one_int, one_bool, one_slice, one_upd, one_lay, one_if, one_c, one_by8, one_row, one_sq, one_grp, nums_len, one_alg, one_num] <;> omega)) only [go_sem, ↓reduceIte, Nat.reduceEqDiff, Int.reduceAdd, Int.reduceSub]
    simp (disch := first | omega | assumption | (simp only [tab_len, List.length_cons, List.length_append, List.length_set, List.length_nil, List.length_replicate, List.length_map, one_int, one_bool, one_slice, one_upd, one_lay, one_if, one_c, one_by8, one_row, one_sq, one_grp, nums_len, one_alg, one_num] <;> omega)) only [go_sem, ↓reduceIte, Nat.reduceEqDiff, Int.reduceAdd, Int.reduceSub, h1, h2, h3]
    refine bindV_of (v := .int .u8 3) (by kernel_rfl) ?_
    simp (disch := first | omega | assumption | (simp only [tab_len, List.length_cons, List.length_append, List.length_set, List.length_nil, List.length_replicate, List.length_map, one_int, one_bool, one_slice, one_upd, one_lay, one_if, one_c, one_by8, one_row, one_sq, one_grp, nums_len, one_alg, one_num] <;> omega)) only [go_sem, ↓reduceIte, Nat.reduceEqDiff, Int.reduceAdd, Int.reduceSub]
    refine up_plain ?_ (fun _ => rfl) rfl
    rfl
  · refine ⟨3, by omega, ?_⟩
    have h1 : ¬ (4294967296 : Int) ≤ ((6 : Nat) : Int) := by decide
    have h2 : ¬ (65536 : Int) ≤ ((6 : Nat) : Int) := by decide
    have h3 : ¬ (256 : Int) ≤ ((6 : Nat) : Int) := by decide
    refine gives_of (rs := [.tmp 2]) mixed Try.func79 rfl ok79 (by kernel_rfl) (by show 1 ≤ _; decide) rfl ?_
    simp (disch := first | omega | assumption | (simp only [tab_len, List.length_cons, List.length_append, List.length_set, List.length_nil, List.length_replicate, List.length_map, one_int, one_bool, one_slice, one_upd, one_lay, one_if, one_c, one_by8, one_row, one_sq, one_grp, nums_len, one_alg, one_num] <;> omega)) only [go_sem, ↓reduceIte, Nat.reduceEqDiff, Int.reduceAdd, Int.reduceSub]
    simp (disch := first | omega | assumption | (simp only [tab_len, List.length_cons, List.length_append, List.length_set, List.length_nil, List.length_replicate, List.length_map, one_int, one_bool, one_slice, one_upd, one_lay, one_if, one_c, one_by8, one_row, one_sq, one_grp, nums_len, one_alg, one_num] <;> omega)) only [go_sem, ↓reduceIte, Nat.reduceEqDiff, Int.reduceAdd, Int.reduceSub, h1, h2, h3]
    refine bindV_of (v := .int .u8 3) (by kernel_rfl) ?_
    simp (disch := first | omega | assumption | (simp only [tab_len, List.length_cons, List.length_append, List.length_set, List.length_nil, List.length_replicate, List.length_map, one_int, one_bool, one_slice, one_upd, one_lay, one_if, one_c, one_by8, one_row, one_sq, one_grp, nums_len, one_alg, one_num] <;> omega)) only [go_sem, ↓reduceIte, Nat.reduceEqDiff, Int.reduceAdd, Int.reduceSub]
    refine up_plain ?_ (fun _ => rfl) rfl
    rfl
theorem fn_len (κ : Mem) (n : Nat) (hn : n ≤ 6) : ∃ v : Int, (0 ≤ v ∧ v ≤ 64) ∧ Gives Try.prog 66 [.int .u64 n] κ (i64 v) := by
  obtain ⟨v, hv, h⟩ := fn_len64 κ n hn
  refine ⟨v, hv, ?_⟩
  refine gives_of (rs := [.tmp 2]) mixed Try.func66 rfl ok66 (by kernel_rfl) (by show 1 ≤ _; decide) rfl ?_
  simp (disch := first | omega | assumption | (simp only [tab_len, List.length_cons, List.length_append, List.length_set, List.length_nil, List.length_replicate, List.length_map, one_int, one_bool, one_slice, one_upd, one_lay, one_if, one_c, one_by8, one_row, one_sq, one_grp, nums_len, one_alg, one_num] <;> omega)) only [go_sem, ↓reduceIte, Nat.reduceEqDiff, Int.reduceAdd, Int.reduceSub]
  refine callB_gives (v := i64 v) (by rw [all_none]; exact h) ?_
  simp (disch := first | omega | assumption | (simp only [tab_len, List.length_cons, List.length_append, List.length_set, List.length_nil, List.length_replicate, List.length_map, one_int, one_bool, one_slice, one_upd, one_lay, one_if, one_c, one_by8, one_row, one_sq, one_grp, nums_len, one_alg, one_num] <;> omega)) only [go_sem, ↓reduceIte, Nat.reduceEqDiff, Int.reduceAdd, Int.reduceSub]
  exact up_plain rfl (fun _ => rfl) rfl
def Sorted (n : Nat) (f : Nat → Int) (t : Nat) (e : Ent) : Prop := ∃ g, Same n f g ∧ Asc n g ∧ e = ⟨2, tab n (numF g), t⟩
theorem fn_pdq (κ : Mem) (b c t n : Nat) (f : Nat → Int) (hn : n ≤ 12) (l : Int) :
    Edits Try.prog 65 [.slice (some ⟨b, 0, none⟩) n c, i64 0, i64 n, i64 l] κ b ⟨2, tab n (numF f), t⟩ (fun v e => Sorted n f t e) := by
  refine edits_of (rs := []) mixed Try.func65 rfl ok65 (by kernel_rfl) (by show 4 ≤ _; decide) rfl ?_
  simp (disch := first | omega | assumption | (simp only [tab_len, List.length_cons, List.length_append, List.length_set, List.length_nil, List.length_replicate, List.length_map, one_int, one_bool, one_slice, one_upd, one_lay, one_if, one_c, one_by8, one_row, one_sq, one_grp, nums_len, one_alg, one_num] <;> omega)) only [go_sem, ↓reduceIte, Nat.reduceEqDiff, Int.reduceAdd, Int.reduceSub]
  refine run_loop (fun _ env M ψ => ψ = none' ∧ M b = some ⟨2, tab n (numF f), t⟩ ∧ env 0 = .slice (some ⟨b, 0, none⟩) n c ∧ env 1 = .int .i64 0 ∧ env 2 = .int .i64 n) 0 ?_ ?_
  · refine ⟨rfl, upd_same .., ?_, ?_, ?_⟩
    all_goals simp (disch := first | omega | assumption | (simp only [tab_len, List.length_cons, List.length_append, List.length_set, List.length_nil, List.length_replicate, List.length_map, one_int, one_bool, one_slice, one_upd, one_lay, one_if, one_c, one_by8, one_row, one_sq, one_grp, nums_len, one_alg, one_num] <;> omega)) only [go_sem, ↓reduceIte, Nat.reduceEqDiff, Int.reduceAdd, Int.reduceSub]
  · rintro m env M ψ hf - ap ⟨rfl, hM, e0, e1, e2⟩ K hK
    have h : (n : Int) ≤ 12 := by omega
    simp (disch := first | omega | assumption | (simp only [tab_len, List.length_cons, List.length_append, List.length_set, List.length_nil, List.length_replicate, List.length_map, one_int, one_bool, one_slice, one_upd, one_lay, one_if, one_c, one_by8, one_row, one_sq, one_grp, nums_len, one_alg, one_num] <;> omega)) only [go_sem, ↓reduceIte, Nat.reduceEqDiff, Int.reduceAdd, Int.reduceSub, e0, e1, e2, h, Int.sub_zero]
    refine callB_edits hM (fn_insertion _ b c t n f (by omega)) fun v e' he => ?_
    simp (disch := first | omega | assumption | (simp only [tab_len, List.length_cons, List.length_append, List.length_set, List.length_nil, List.length_replicate, List.length_map, one_int, one_bool, one_slice, one_upd, one_lay, one_if, one_c, one_by8, one_row, one_sq, one_grp, nums_len, one_alg, one_num] <;> omega)) only [go_sem, ↓reduceIte, Nat.reduceEqDiff, Int.reduceAdd, Int.reduceSub]
    exact up_edits (v := .tuple #[]) (R := fun v e => Sorted n f t e) (upd_same ..) he rfl
theorem fn_sort (κ : Mem) (b c t n : Nat) (f : Nat → Int) (hn : n ≤ 6) :
    Edits Try.prog 59 [.slice (some ⟨b, 0, none⟩) n c] κ b ⟨2, tab n (numF f), t⟩ (fun v e => Sorted n f t e) := by
  refine edits_of (rs := []) mixed Try.func59 rfl ok59 (by kernel_rfl) (by show 1 ≤ _; decide) rfl ?_
  simp (disch := first | omega | assumption | (simp only [tab_len, List.length_cons, List.length_append, List.length_set, List.length_nil, List.length_replicate, List.length_map, one_int, one_bool, one_slice, one_upd, one_lay, one_if, one_c, one_by8, one_row, one_sq, one_grp, nums_len, one_alg, one_num] <;> omega)) only [go_sem, ↓reduceIte, Nat.reduceEqDiff, Int.reduceAdd, Int.reduceSub]
  have h : IntKind.u64.wrap (n : Int) = n := IntWalk.u64_in _ (by omega)
  rw [h]
  obtain ⟨v, hv, hl⟩ := fn_len (all κ none' (upd none' b (some ⟨2, tab n (numF f), t⟩))) n hn
  refine callB_gives hl ?_
  simp (disch := first | omega | assumption | (simp only [tab_len, List.length_cons, List.length_append, List.length_set, List.length_nil, List.length_replicate, List.length_map, one_int, one_bool, one_slice, one_upd, one_lay, one_if, one_c, one_by8, one_row, one_sq, one_grp, nums_len, one_alg, one_num] <;> omega)) only [go_sem, ↓reduceIte, Nat.reduceEqDiff, Int.reduceAdd, Int.reduceSub]
  refine callB_edits (upd_same ..) (fn_pdq _ b c t n f (by omega) v) fun v e' he => ?_
  simp (disch := first | omega | assumption | (simp only [tab_len, List.length_cons, List.length_append, List.length_set, List.length_nil, List.length_replicate, List.length_map, one_int, one_bool, one_slice, one_upd, one_lay, one_if, one_c, one_by8, one_row, one_sq, one_grp, nums_len, one_alg, one_num] <;> omega)) only [go_sem, ↓reduceIte, Nat.reduceEqDiff, Int.reduceAdd, Int.reduceSub]
  exact up_edits (v := .tuple #[]) (R := fun v e => Sorted n f t e) (upd_same ..) he rfl
end Go.Proofs.Ytbenllhoofoahaa

