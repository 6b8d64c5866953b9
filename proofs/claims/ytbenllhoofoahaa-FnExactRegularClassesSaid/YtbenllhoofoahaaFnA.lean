/- The functions, one by one: copies of a group, its tables. -/
import Derived.Test.YtbenllhoofoahaaFacts
namespace Go.Proofs.Ytbenllhoofoahaa
set_option linter.unusedSimpArgs false
set_option linter.unusedVariables false
open Go Go.Vc
structure Grp where
  n : Int
  T : Nat → Nat → UInt8
def rowF (r : Nat → UInt8) (k : Nat) : Value := by8 (r k)
def sqF (T : Nat → Nat → UInt8) (k : Nat) : Value := by8 (T (k / 6) (k % 6))
def grpF (G : Grp) (k : Nat) : Value := if k = 0 then i64 G.n else sqF G.T (k - 1)
theorem sqF_at (T : Nat → Nat → UInt8) (i j : Nat) (h : j < 6) : sqF T (i * 6 + j) = by8 (T i j) := by
  unfold sqF; rw [show (i * 6 + j) / 6 = i by omega, show (i * 6 + j) % 6 = j by omega]
theorem grpF_at (G : Grp) (i j : Nat) (h : j < 6) : grpF G (1 + i * 6 + j) = by8 (G.T i j) := by
  unfold grpF; rw [if_neg (by omega), show 1 + i * 6 + j - 1 = i * 6 + j by omega, sqF_at _ _ _ h]
theorem grpF_r0 (G : Grp) (j : Nat) (h : j < 6) : grpF G (1 + j) = by8 (G.T 0 j) := by have := grpF_at G 0 j h; rwa [show 1 + 0 * 6 + j = 1 + j by omega] at this
theorem grpF_c0 (G : Grp) (i : Nat) : grpF G (1 + i * 6) = by8 (G.T i 0) := grpF_at G i 0 (by omega)
theorem sq_row (T : Nat → Nat → UInt8) (i : Nat) : (tab 6 fun k => sqF T (i * 6 + k)) = tab 6 (rowF (T i)) := tab_eq fun k hk => sqF_at T i k hk
theorem sq_extract (T : Nat → Nat → UInt8) (i : Nat) (h : i < 6) : (tab 36 (sqF T)).toArray.extract (i * 6) (i * 6 + 6) = (tab 6 (rowF (T i))).toArray := by
  rw [s_extract _ _ _ _ (by omega), sq_row]
theorem grp_sq (G : Grp) : (tab 36 fun k => grpF G (1 + k)) = tab 36 (sqF G.T) := tab_eq fun k hk => by unfold grpF; rw [if_neg (by omega), show 1 + k - 1 = k by omega]
theorem grpF_0 (G : Grp) : grpF G 0 = i64 G.n := rfl
theorem one_row (n) (r : Nat → UInt8) : One n (rowF r) := fun _ => rfl
theorem one_sq (n) (T : Nat → Nat → UInt8) : One n (sqF T) := fun _ => rfl
theorem one_grp (n) (G : Grp) : One n (grpF G) := fun k => by unfold grpF; split <;> rfl

theorem toByteA6 (f : Nat → UInt8) (κ : Mem) : Gives Try.prog 40 [.agg (tab 6 (rowF f)).toArray] κ (.agg (tab 6 (rowF f)).toArray) := by
  refine gives_of (rs := [.cell 2 22]) mixed Try.func40 rfl ok40 (by kernel_rfl) (by show 1 ≤ _; decide) rfl ?_
  simp (disch := first | omega | assumption | (simp only [tab_len, List.length_cons, List.length_append, List.length_set, List.length_nil, List.length_replicate, List.length_map, one_int, one_bool, one_slice, one_upd, one_lay, one_if, one_c, one_by8, one_row, one_sq, one_grp] <;> omega)) only [go_sem, ↓reduceIte, Nat.reduceEqDiff, Int.reduceAdd, Int.reduceSub]
  refine anew_intro fun p p1 p2 p3 => ?_
  have p0 := p1
  try simp only [upd_none] at p0
  simp (disch := first | omega | assumption | (simp only [tab_len, List.length_cons, List.length_append, List.length_set, List.length_nil, List.length_replicate, List.length_map, one_int, one_bool, one_slice, one_upd, one_lay, one_if, one_c, one_by8, one_row, one_sq, one_grp] <;> omega)) only [go_sem, ↓reduceIte, Nat.reduceEqDiff, Int.reduceAdd, Int.reduceSub]
  refine anew_intro fun q q1 q2 q3 => ?_
  have q0 := q1
  try simp only [upd_none] at q0
  simp (disch := first | omega | assumption | (simp only [tab_len, List.length_cons, List.length_append, List.length_set, List.length_nil, List.length_replicate, List.length_map, one_int, one_bool, one_slice, one_upd, one_lay, one_if, one_c, one_by8, one_row, one_sq, one_grp] <;> omega)) only [go_sem, ↓reduceIte, Nat.reduceEqDiff, Int.reduceAdd, Int.reduceSub]
  refine anew_intro fun r r1 r2 r3 => ?_
  have r0 := r1
  try simp only [upd_none] at r0
  simp (disch := first | omega | assumption | (simp only [tab_len, List.length_cons, List.length_append, List.length_set, List.length_nil, List.length_replicate, List.length_map, one_int, one_bool, one_slice, one_upd, one_lay, one_if, one_c, one_by8, one_row, one_sq, one_grp] <;> omega)) only [go_sem, ↓reduceIte, Nat.reduceEqDiff, Int.reduceAdd, Int.reduceSub]
  simp only [upd_none] at q1 r1
  refine vc_up 6 0 (fun i env M ψ => ψ = none' ∧ env 4 = .int .i64 i ∧ Has M p 22 (tab 6 (rowF f)) ∧ Has M q 22 (tab 6 (rowF fun _ => 0)) ∧ ∃ g, (∀ j < i, g j = rowF f j) ∧ One 6 g ∧ Has M r 22 (tab 6 g)) (by omega) ?_ ?_
  · refine ⟨rfl, ?_, ?_, ?_, rowF fun _ => 0, fun j hj => (by omega), one_row _ _, ?_⟩
    · simp (disch := first | omega | assumption | (simp only [tab_len, List.length_cons, List.length_append, List.length_set, List.length_nil, List.length_replicate, List.length_map, one_int, one_bool, one_slice, one_upd, one_lay, one_if, one_c, one_by8, one_row, one_sq, one_grp] <;> omega)) only [go_sem, ↓reduceIte, Nat.reduceEqDiff, Int.reduceAdd, Int.reduceSub]
    · simp (disch := first | omega | assumption | (simp only [tab_len, List.length_cons, List.length_append, List.length_set, List.length_nil, List.length_replicate, List.length_map, one_int, one_bool, one_slice, one_upd, one_lay, one_if, one_c, one_by8, one_row, one_sq, one_grp] <;> omega)) only [go_sem, ↓reduceIte, Nat.reduceEqDiff, Int.reduceAdd, Int.reduceSub, has_same, has_ne, true_and]
    · simp (disch := first | omega | assumption | (simp only [tab_len, List.length_cons, List.length_append, List.length_set, List.length_nil, List.length_replicate, List.length_map, one_int, one_bool, one_slice, one_upd, one_lay, one_if, one_c, one_by8, one_row, one_sq, one_grp] <;> omega)) only [go_sem, ↓reduceIte, Nat.reduceEqDiff, Int.reduceAdd, Int.reduceSub, has_same, has_ne, true_and]
      rfl
    · simp (disch := first | omega | assumption | (simp only [tab_len, List.length_cons, List.length_append, List.length_set, List.length_nil, List.length_replicate, List.length_map, one_int, one_bool, one_slice, one_upd, one_lay, one_if, one_c, one_by8, one_row, one_sq, one_grp] <;> omega)) only [go_sem, ↓reduceIte, Nat.reduceEqDiff, Int.reduceAdd, Int.reduceSub, has_same, has_ne, true_and]
      rfl
  · rintro i env M ψ hi hf - ap ⟨rfl, e4, ⟨t1, hp⟩, ⟨t2, hq⟩, g, hg, hg1, t3, hr⟩ K hK
    have e1 := hf 1 (by kernel_rfl)
    have e2 := hf 2 (by kernel_rfl)
    have e3 := hf 3 (by kernel_rfl)
    simp (disch := first | omega | assumption | (simp only [tab_len, List.length_cons, List.length_append, List.length_set, List.length_nil, List.length_replicate, List.length_map, one_int, one_bool, one_slice, one_upd, one_lay, one_if, one_c, one_by8, one_row, one_sq, one_grp] <;> omega)) only [go_sem, ↓reduceIte, Nat.reduceEqDiff, Int.reduceAdd, Int.reduceSub] at e1
    simp (disch := first | omega | assumption | (simp only [tab_len, List.length_cons, List.length_append, List.length_set, List.length_nil, List.length_replicate, List.length_map, one_int, one_bool, one_slice, one_upd, one_lay, one_if, one_c, one_by8, one_row, one_sq, one_grp] <;> omega)) only [go_sem, ↓reduceIte, Nat.reduceEqDiff, Int.reduceAdd, Int.reduceSub] at e2
    simp (disch := first | omega | assumption | (simp only [tab_len, List.length_cons, List.length_append, List.length_set, List.length_nil, List.length_replicate, List.length_map, one_int, one_bool, one_slice, one_upd, one_lay, one_if, one_c, one_by8, one_row, one_sq, one_grp] <;> omega)) only [go_sem, ↓reduceIte, Nat.reduceEqDiff, Int.reduceAdd, Int.reduceSub] at e3
    simp (disch := first | omega | assumption | (simp only [tab_len, List.length_cons, List.length_append, List.length_set, List.length_nil, List.length_replicate, List.length_map, one_int, one_bool, one_slice, one_upd, one_lay, one_if, one_c, one_by8, one_row, one_sq, one_grp] <;> omega)) only [go_sem, ↓reduceIte, Nat.reduceEqDiff, Int.reduceAdd, Int.reduceSub, e4]
    refine ifB_dec (fun h => ?_) (fun h => ?_)
    · simp (disch := first | omega | assumption | (simp only [tab_len, List.length_cons, List.length_append, List.length_set, List.length_nil, List.length_replicate, List.length_map, one_int, one_bool, one_slice, one_upd, one_lay, one_if, one_c, one_by8, one_row, one_sq, one_grp] <;> omega)) only [go_sem, ↓reduceIte, Nat.reduceEqDiff, Int.reduceAdd, Int.reduceSub, e1, e2, e3, e4, hp, hq, hr, rowF]
      refine hK _ _ _ (by omega) (Up.here ⟨rfl, ?_, ?_, ?_, upd g i (rowF f i), fun j hj => ?_, ?_, ?_⟩)
      · simp (disch := first | omega | assumption | (simp only [tab_len, List.length_cons, List.length_append, List.length_set, List.length_nil, List.length_replicate, List.length_map, one_int, one_bool, one_slice, one_upd, one_lay, one_if, one_c, one_by8, one_row, one_sq, one_grp] <;> omega)) only [go_sem, ↓reduceIte, Nat.reduceEqDiff, Int.reduceAdd, Int.reduceSub]
      · rw [has_ne _ _ _ _ _ (by omega)]; exact ⟨_, hp⟩
      · rw [has_ne _ _ _ _ _ (by omega)]; exact ⟨_, hq⟩
      · by_cases hj' : j = i
        · subst hj'; exact upd_same ..
        · rw [upd_ne hj']; exact hg j (by omega)
      · exact one_upd hg1 rfl
      · simp (disch := first | omega | assumption | (simp only [tab_len, List.length_cons, List.length_append, List.length_set, List.length_nil, List.length_replicate, List.length_map, one_int, one_bool, one_slice, one_upd, one_lay, one_if, one_c, one_by8, one_row, one_sq, one_grp] <;> omega)) only [go_sem, ↓reduceIte, Nat.reduceEqDiff, Int.reduceAdd, Int.reduceSub, has_same, rowF, true_and]
    · simp (disch := first | omega | assumption | (simp only [tab_len, List.length_cons, List.length_append, List.length_set, List.length_nil, List.length_replicate, List.length_map, one_int, one_bool, one_slice, one_upd, one_lay, one_if, one_c, one_by8, one_row, one_sq, one_grp] <;> omega)) only [go_sem, ↓reduceIte, Nat.reduceEqDiff, Int.reduceAdd, Int.reduceSub, e1, e2, e3, e4, hp, hq, hr, s_putTabA]
      refine up_plain ?_ (fun _ => rfl) rfl
      rw [tab_eq fun j hj => hg j (by omega)]
theorem toByteA6A6 (T : Nat → Nat → UInt8) (κ : Mem) : Gives Try.prog 20 [.agg (tab 36 (sqF T)).toArray] κ (.agg (tab 36 (sqF T)).toArray) := by
  refine gives_of (rs := [.cell 2 23]) mixed Try.func20 rfl ok20 (by kernel_rfl) (by show 1 ≤ _; decide) rfl ?_
  simp (disch := first | omega | assumption | (simp only [tab_len, List.length_cons, List.length_append, List.length_set, List.length_nil, List.length_replicate, List.length_map, one_int, one_bool, one_slice, one_upd, one_lay, one_if, one_c, one_by8, one_row, one_sq, one_grp] <;> omega)) only [go_sem, ↓reduceIte, Nat.reduceEqDiff, Int.reduceAdd, Int.reduceSub]
  refine anew_intro fun p p1 p2 p3 => ?_
  have p0 := p1
  try simp only [upd_none] at p0
  simp (disch := first | omega | assumption | (simp only [tab_len, List.length_cons, List.length_append, List.length_set, List.length_nil, List.length_replicate, List.length_map, one_int, one_bool, one_slice, one_upd, one_lay, one_if, one_c, one_by8, one_row, one_sq, one_grp] <;> omega)) only [go_sem, ↓reduceIte, Nat.reduceEqDiff, Int.reduceAdd, Int.reduceSub]
  refine anew_intro fun q q1 q2 q3 => ?_
  have q0 := q1
  try simp only [upd_none] at q0
  simp (disch := first | omega | assumption | (simp only [tab_len, List.length_cons, List.length_append, List.length_set, List.length_nil, List.length_replicate, List.length_map, one_int, one_bool, one_slice, one_upd, one_lay, one_if, one_c, one_by8, one_row, one_sq, one_grp] <;> omega)) only [go_sem, ↓reduceIte, Nat.reduceEqDiff, Int.reduceAdd, Int.reduceSub]
  refine anew_intro fun r r1 r2 r3 => ?_
  have r0 := r1
  try simp only [upd_none] at r0
  simp (disch := first | omega | assumption | (simp only [tab_len, List.length_cons, List.length_append, List.length_set, List.length_nil, List.length_replicate, List.length_map, one_int, one_bool, one_slice, one_upd, one_lay, one_if, one_c, one_by8, one_row, one_sq, one_grp] <;> omega)) only [go_sem, ↓reduceIte, Nat.reduceEqDiff, Int.reduceAdd, Int.reduceSub]
  simp only [upd_none] at q1 r1
  refine vc_up 6 0 (fun i env M ψ => ψ = none' ∧ env 4 = .int .i64 i ∧ Has M p 23 (tab 36 (sqF T)) ∧ Has M q 23 (tab 36 (sqF fun _ _ => 0)) ∧ ∃ g, (∀ j < i * 6, g j = sqF T j) ∧ One 36 g ∧ Has M r 23 (tab 36 g)) (by omega) ?_ ?_
  · refine ⟨rfl, ?_, ?_, ?_, sqF fun _ _ => 0, fun j hj => (by omega), one_sq _ _, ?_⟩
    · simp (disch := first | omega | assumption | (simp only [tab_len, List.length_cons, List.length_append, List.length_set, List.length_nil, List.length_replicate, List.length_map, one_int, one_bool, one_slice, one_upd, one_lay, one_if, one_c, one_by8, one_row, one_sq, one_grp] <;> omega)) only [go_sem, ↓reduceIte, Nat.reduceEqDiff, Int.reduceAdd, Int.reduceSub]
    · simp (disch := first | omega | assumption | (simp only [tab_len, List.length_cons, List.length_append, List.length_set, List.length_nil, List.length_replicate, List.length_map, one_int, one_bool, one_slice, one_upd, one_lay, one_if, one_c, one_by8, one_row, one_sq, one_grp] <;> omega)) only [go_sem, ↓reduceIte, Nat.reduceEqDiff, Int.reduceAdd, Int.reduceSub, has_same, has_ne, true_and]
    · simp (disch := first | omega | assumption | (simp only [tab_len, List.length_cons, List.length_append, List.length_set, List.length_nil, List.length_replicate, List.length_map, one_int, one_bool, one_slice, one_upd, one_lay, one_if, one_c, one_by8, one_row, one_sq, one_grp] <;> omega)) only [go_sem, ↓reduceIte, Nat.reduceEqDiff, Int.reduceAdd, Int.reduceSub, has_same, has_ne, true_and]
      rfl
    · simp (disch := first | omega | assumption | (simp only [tab_len, List.length_cons, List.length_append, List.length_set, List.length_nil, List.length_replicate, List.length_map, one_int, one_bool, one_slice, one_upd, one_lay, one_if, one_c, one_by8, one_row, one_sq, one_grp] <;> omega)) only [go_sem, ↓reduceIte, Nat.reduceEqDiff, Int.reduceAdd, Int.reduceSub, has_same, has_ne, true_and]
      rfl
  · rintro i env M ψ hi hf - ap ⟨rfl, e4, ⟨t1, hp⟩, ⟨t2, hq⟩, g, hg, hg1, t3, hr⟩ K hK
    have e1 := hf 1 (by kernel_rfl)
    have e2 := hf 2 (by kernel_rfl)
    have e3 := hf 3 (by kernel_rfl)
    simp (disch := first | omega | assumption | (simp only [tab_len, List.length_cons, List.length_append, List.length_set, List.length_nil, List.length_replicate, List.length_map, one_int, one_bool, one_slice, one_upd, one_lay, one_if, one_c, one_by8, one_row, one_sq, one_grp] <;> omega)) only [go_sem, ↓reduceIte, Nat.reduceEqDiff, Int.reduceAdd, Int.reduceSub] at e1
    simp (disch := first | omega | assumption | (simp only [tab_len, List.length_cons, List.length_append, List.length_set, List.length_nil, List.length_replicate, List.length_map, one_int, one_bool, one_slice, one_upd, one_lay, one_if, one_c, one_by8, one_row, one_sq, one_grp] <;> omega)) only [go_sem, ↓reduceIte, Nat.reduceEqDiff, Int.reduceAdd, Int.reduceSub] at e2
    simp (disch := first | omega | assumption | (simp only [tab_len, List.length_cons, List.length_append, List.length_set, List.length_nil, List.length_replicate, List.length_map, one_int, one_bool, one_slice, one_upd, one_lay, one_if, one_c, one_by8, one_row, one_sq, one_grp] <;> omega)) only [go_sem, ↓reduceIte, Nat.reduceEqDiff, Int.reduceAdd, Int.reduceSub] at e3
    simp (disch := first | omega | assumption | (simp only [tab_len, List.length_cons, List.length_append, List.length_set, List.length_nil, List.length_replicate, List.length_map, one_int, one_bool, one_slice, one_upd, one_lay, one_if, one_c, one_by8, one_row, one_sq, one_grp] <;> omega)) only [go_sem, ↓reduceIte, Nat.reduceEqDiff, Int.reduceAdd, Int.reduceSub, e4]
    refine ifB_dec (fun h => ?_) (fun h => ?_)
    · simp (disch := first | omega | assumption | (simp only [tab_len, List.length_cons, List.length_append, List.length_set, List.length_nil, List.length_replicate, List.length_map, one_int, one_bool, one_slice, one_upd, one_lay, one_if, one_c, one_by8, one_row, one_sq, one_grp] <;> omega)) only [go_sem, ↓reduceIte, Nat.reduceEqDiff, Int.reduceAdd, Int.reduceSub, e1, e2, e3, e4, hp, hq, hr]
      simp only [sq_row]
      refine callB_gives (toByteA6 (T i) _) ?_
      simp (disch := first | omega | assumption | (simp only [tab_len, List.length_cons, List.length_append, List.length_set, List.length_nil, List.length_replicate, List.length_map, one_int, one_bool, one_slice, one_upd, one_lay, one_if, one_c, one_by8, one_row, one_sq, one_grp] <;> omega)) only [go_sem, ↓reduceIte, Nat.reduceEqDiff, Int.reduceAdd, Int.reduceSub, e1, e2, e3, e4, hp, hq, hr, one_row]
      refine hK _ _ _ (by omega) (Up.here ⟨rfl, ?_, ?_, ?_, lay g (i * 6) 6 (rowF (T i)), fun j hj => ?_, ?_, ?_⟩)
      · simp (disch := first | omega | assumption | (simp only [tab_len, List.length_cons, List.length_append, List.length_set, List.length_nil, List.length_replicate, List.length_map, one_int, one_bool, one_slice, one_upd, one_lay, one_if, one_c, one_by8, one_row, one_sq, one_grp] <;> omega)) only [go_sem, ↓reduceIte, Nat.reduceEqDiff, Int.reduceAdd, Int.reduceSub]
      · rw [has_ne _ _ _ _ _ (by omega)]; exact ⟨_, hp⟩
      · rw [has_ne _ _ _ _ _ (by omega)]; exact ⟨_, hq⟩
      · by_cases hj' : i * 6 ≤ j
        · rw [lay_in ⟨hj', by omega⟩]; have := sqF_at T i (j - i * 6) (by omega); rw [show i * 6 + (j - i * 6) = j by omega] at this; exact this.symm
        · rw [lay_out (by omega)]; exact hg j (by omega)
      · exact one_lay hg1 (one_row 6 _)
      · simp (disch := first | omega | assumption | (simp only [tab_len, List.length_cons, List.length_append, List.length_set, List.length_nil, List.length_replicate, List.length_map, one_int, one_bool, one_slice, one_upd, one_lay, one_if, one_c, one_by8, one_row, one_sq, one_grp] <;> omega)) only [go_sem, ↓reduceIte, Nat.reduceEqDiff, Int.reduceAdd, Int.reduceSub, has_same, true_and]
    · simp (disch := first | omega | assumption | (simp only [tab_len, List.length_cons, List.length_append, List.length_set, List.length_nil, List.length_replicate, List.length_map, one_int, one_bool, one_slice, one_upd, one_lay, one_if, one_c, one_by8, one_row, one_sq, one_grp] <;> omega)) only [go_sem, ↓reduceIte, Nat.reduceEqDiff, Int.reduceAdd, Int.reduceSub, e1, e2, e3, e4, hp, hq, hr]
      refine up_plain ?_ (fun _ => rfl) rfl
      rw [tab_eq fun j hj => hg j (by omega)]
theorem grp_made (G : Grp) (z : Nat → Value) : tab 37 (lay (upd z 0 (.int .i64 G.n)) 1 36 (sqF G.T)) = tab 37 (grpF G) := tab_eq fun k hk => by
  by_cases h : k = 0
  · subst h; rfl
  · rw [lay_in ⟨by omega, by omega⟩]; unfold grpF; rw [if_neg h]
theorem toGroup (G : Grp) (κ : Mem) : Gives Try.prog 6 [.agg (tab 37 (grpF G)).toArray] κ (.agg (tab 37 (grpF G)).toArray) := by
  refine gives_of (rs := [.cell 2 35]) mixed Try.func6 rfl ok6 (by kernel_rfl) (by show 1 ≤ _; decide) rfl ?_
  simp (disch := first | omega | assumption | (simp only [tab_len, List.length_cons, List.length_append, List.length_set, List.length_nil, List.length_replicate, List.length_map, one_int, one_bool, one_slice, one_upd, one_lay, one_if, one_c, one_by8, one_row, one_sq, one_grp] <;> omega)) only [go_sem, ↓reduceIte, Nat.reduceEqDiff, Int.reduceAdd, Int.reduceSub]
  refine anew_intro fun p p1 p2 p3 => ?_
  have p0 := p1
  try simp only [upd_none] at p0
  simp (disch := first | omega | assumption | (simp only [tab_len, List.length_cons, List.length_append, List.length_set, List.length_nil, List.length_replicate, List.length_map, one_int, one_bool, one_slice, one_upd, one_lay, one_if, one_c, one_by8, one_row, one_sq, one_grp] <;> omega)) only [go_sem, ↓reduceIte, Nat.reduceEqDiff, Int.reduceAdd, Int.reduceSub]
  refine anew_intro fun q q1 q2 q3 => ?_
  have q0 := q1
  try simp only [upd_none] at q0
  simp (disch := first | omega | assumption | (simp only [tab_len, List.length_cons, List.length_append, List.length_set, List.length_nil, List.length_replicate, List.length_map, one_int, one_bool, one_slice, one_upd, one_lay, one_if, one_c, one_by8, one_row, one_sq, one_grp] <;> omega)) only [go_sem, ↓reduceIte, Nat.reduceEqDiff, Int.reduceAdd, Int.reduceSub]
  refine anew_intro fun r r1 r2 r3 => ?_
  have r0 := r1
  try simp only [upd_none] at r0
  simp only [upd_none] at q1 r1
  simp (disch := first | omega | assumption | (simp only [tab_len, List.length_cons, List.length_append, List.length_set, List.length_nil, List.length_replicate, List.length_map, one_int, one_bool, one_slice, one_upd, one_lay, one_if, one_c, one_by8, one_row, one_sq, one_grp] <;> omega)) only [go_sem, ↓reduceIte, Nat.reduceEqDiff, Int.reduceAdd, Int.reduceSub, grpF_0, grp_sq]
  refine callB_gives (toByteA6A6 G.T _) ?_
  simp (disch := first | omega | assumption | (simp only [tab_len, List.length_cons, List.length_append, List.length_set, List.length_nil, List.length_replicate, List.length_map, one_int, one_bool, one_slice, one_upd, one_lay, one_if, one_c, one_by8, one_row, one_sq, one_grp] <;> omega)) only [go_sem, ↓reduceIte, Nat.reduceEqDiff, Int.reduceAdd, Int.reduceSub, grpF_0, grp_sq]
  rw [s_putTabA _ _ _ _ _ _ _ (one_lay (m := 36) (one_upd (n := 37) (one_if (one_c rfl) (one_c rfl)) rfl) (one_sq _ _)), grp_made]
  simp (disch := first | omega | assumption | (simp only [tab_len, List.length_cons, List.length_append, List.length_set, List.length_nil, List.length_replicate, List.length_map, one_int, one_bool, one_slice, one_upd, one_lay, one_if, one_c, one_by8, one_row, one_sq, one_grp] <;> omega)) only [go_sem, ↓reduceIte, Nat.reduceEqDiff, Int.reduceAdd, Int.reduceSub]
  exact up_plain rfl (fun _ => rfl) rfl
end Go.Proofs.Ytbenllhoofoahaa

