/- The group's own functions. -/
import Derived.Test.YtbenllhoofoahaaFnA
namespace Go.Proofs.Ytbenllhoofoahaa
set_option linter.unusedSimpArgs false
set_option linter.unusedVariables false
set_option maxRecDepth 4000
open Go Go.Vc
theorem fn_n (G : Grp) (κ : Mem) (b : Nat) (ty : TypeId) (hb : Has κ b ty (tab 37 (grpF G))) : Gives Try.prog 33 [ptr b] κ (i64 G.n) := by
  obtain ⟨t, hb⟩ := hb
  refine gives_of (rs := [.tmp 2]) mixed Try.func33 rfl ok33 (by kernel_rfl) (by show 1 ≤ _; decide) rfl ?_
  simp (disch := first | omega | assumption | (simp only [tab_len, List.length_cons, List.length_append, List.length_set, List.length_nil, List.length_replicate, List.length_map, one_int, one_bool, one_slice, one_upd, one_lay, one_if, one_c, one_by8, one_row, one_sq, one_grp] <;> omega)) only [go_sem, ↓reduceIte, Nat.reduceEqDiff, Int.reduceAdd, Int.reduceSub]
  simp (disch := first | omega | assumption | (simp only [tab_len, List.length_cons, List.length_append, List.length_set, List.length_nil, List.length_replicate, List.length_map, one_int, one_bool, one_slice, one_upd, one_lay, one_if, one_c, one_by8, one_row, one_sq, one_grp] <;> omega)) only [go_sem, ↓reduceIte, Nat.reduceEqDiff, Int.reduceAdd, Int.reduceSub, hb, grpF_0]
  exact up_plain rfl (fun _ => rfl) rfl
theorem fn_times (G : Grp) (κ : Mem) (b : Nat) (ty : TypeId) (hb : Has κ b ty (tab 37 (grpF G))) (i j : Nat) (hi : i < 6) (hj : j < 6) :
    Gives Try.prog 34 [ptr b, i64 i, i64 j] κ (i64 (G.T i j).toNat) := by
  obtain ⟨t, hb⟩ := hb
  have := (G.T i j).toNat_lt
  refine gives_of (rs := [.tmp 6]) mixed Try.func34 rfl ok34 (by kernel_rfl) (by show 3 ≤ _; decide) rfl ?_
  simp (disch := first | omega | assumption | (simp only [tab_len, List.length_cons, List.length_append, List.length_set, List.length_nil, List.length_replicate, List.length_map, one_int, one_bool, one_slice, one_upd, one_lay, one_if, one_c, one_by8, one_row, one_sq, one_grp] <;> omega)) only [go_sem, ↓reduceIte, Nat.reduceEqDiff, Int.reduceAdd, Int.reduceSub]
  simp (disch := first | omega | assumption | (simp only [tab_len, List.length_cons, List.length_append, List.length_set, List.length_nil, List.length_replicate, List.length_map, one_int, one_bool, one_slice, one_upd, one_lay, one_if, one_c, one_by8, one_row, one_sq, one_grp] <;> omega)) only [go_sem, ↓reduceIte, Nat.reduceEqDiff, Int.reduceAdd, Int.reduceSub, hb, grpF_at]
  exact up_plain rfl (fun _ => rfl) rfl
theorem fn_in (κ : Mem) (x lo hi : Int) : Gives Try.prog 55 [i64 x, i64 lo, i64 hi] κ (.bool (decide (lo ≤ x ∧ x ≤ hi))) := by
  refine gives_of (rs := [.tmp 6]) mixed Try.func55 rfl ok55 (by kernel_rfl) (by show 3 ≤ _; decide) rfl ?_
  simp (disch := first | omega | assumption | (simp only [tab_len, List.length_cons, List.length_append, List.length_set, List.length_nil, List.length_replicate, List.length_map, one_int, one_bool, one_slice, one_upd, one_lay, one_if, one_c, one_by8, one_row, one_sq, one_grp] <;> omega)) only [go_sem, ↓reduceIte, Nat.reduceEqDiff, Int.reduceAdd, Int.reduceSub]
  by_cases h : lo ≤ x
  · simp (disch := first | omega | assumption | (simp only [tab_len, List.length_cons, List.length_append, List.length_set, List.length_nil, List.length_replicate, List.length_map, one_int, one_bool, one_slice, one_upd, one_lay, one_if, one_c, one_by8, one_row, one_sq, one_grp] <;> omega)) only [go_sem, ↓reduceIte, Nat.reduceEqDiff, Int.reduceAdd, Int.reduceSub, h]
    exact up_plain (by simp [h]) (fun _ => rfl) rfl
  · simp (disch := first | omega | assumption | (simp only [tab_len, List.length_cons, List.length_append, List.length_set, List.length_nil, List.length_replicate, List.length_map, one_int, one_bool, one_slice, one_upd, one_lay, one_if, one_c, one_by8, one_row, one_sq, one_grp] <;> omega)) only [go_sem, ↓reduceIte, Nat.reduceEqDiff, Int.reduceAdd, Int.reduceSub, h]
    exact up_plain (by simp [h]) (fun _ => rfl) rfl
/-- The first place with a property, or -1. -/
def firstOr (n : Nat) (p : Nat → Prop) [DecidablePred p] (z : Int) : Int := match (List.range n).find? (fun j => decide (p j)) with | some j => j | none => z
theorem firstOr_at {n : Nat} {p : Nat → Prop} [DecidablePred p] {z : Int} {j : Nat} (hj : j < n) (h : p j) (hk : ∀ k < j, ¬ p k) : firstOr n p z = j := by
  unfold firstOr
  have : (List.range n).find? (fun j => decide (p j)) = some j := by
    rw [List.find?_range_eq_some]
    exact ⟨by simpa using h, by simpa using hj, fun k hk' => by simpa using hk k hk'⟩
  rw [this]
theorem firstOr_none {n : Nat} {p : Nat → Prop} [DecidablePred p] {z : Int} (hk : ∀ k < n, ¬ p k) : firstOr n p z = z := by
  unfold firstOr
  have : (List.range n).find? (fun j => decide (p j)) = none := by
    rw [List.find?_range_eq_none]
    exact fun k hk' => by simpa using hk k hk'
  rw [this]
theorem firstOr_neg {n : Nat} {p : Nat → Prop} [DecidablePred p] : firstOr n p (-1) < 0 ↔ ¬ ∃ j < n, p j := by
  unfold firstOr
  cases h : (List.range n).find? (fun j => decide (p j)) with
  | none =>
    rw [List.find?_range_eq_none] at h
    refine ⟨fun _ ⟨j, hj, hp⟩ => by simpa [hp] using h j hj, fun _ => by decide⟩
  | some j =>
    rw [List.find?_range_eq_some] at h
    refine ⟨fun h' => ?_, fun h' => (h' ⟨j, by simpa using h.2.1, by simpa using h.1⟩).elim⟩
    simp only at h'; omega
theorem fn_inverse (G : Grp) (κ : Mem) (b : Nat) (ty : TypeId) (hb : Has κ b ty (tab 37 (grpF G))) (n : Nat) (hn : G.n = n) (hn6 : n ≤ 6) (i : Nat) (hi : i < 6) :
    Gives Try.prog 57 [ptr b, i64 i] κ (i64 (firstOr n (fun j => (G.T i j).toNat = 0 ∧ (G.T j i).toNat = 0) (-1))) := by
  refine gives_of (rs := [.tmp 4]) mixed Try.func57 rfl ok57 (by kernel_rfl) (by show 2 ≤ _; decide) rfl ?_
  simp (disch := first | omega | assumption | (simp only [tab_len, List.length_cons, List.length_append, List.length_set, List.length_nil, List.length_replicate, List.length_map, one_int, one_bool, one_slice, one_upd, one_lay, one_if, one_c, one_by8, one_row, one_sq, one_grp] <;> omega)) only [go_sem, ↓reduceIte, Nat.reduceEqDiff, Int.reduceAdd, Int.reduceSub]
  refine callB_gives (fn_n G _ b ty (by rw [all_none]; exact hb)) ?_
  simp (disch := first | omega | assumption | (simp only [tab_len, List.length_cons, List.length_append, List.length_set, List.length_nil, List.length_replicate, List.length_map, one_int, one_bool, one_slice, one_upd, one_lay, one_if, one_c, one_by8, one_row, one_sq, one_grp] <;> omega)) only [go_sem, ↓reduceIte, Nat.reduceEqDiff, Int.reduceAdd, Int.reduceSub, hn]
  refine vc_up n 0 (fun j env M ψ => ψ = none' ∧ M = none' ∧ env 8 = .int .i64 j ∧ ∀ k < j, ¬ ((G.T i k).toNat = 0 ∧ (G.T k i).toNat = 0)) (by omega) ?_ ?_
  · refine ⟨rfl, rfl, ?_, fun k hk => (by omega)⟩
    simp (disch := first | omega | assumption | (simp only [tab_len, List.length_cons, List.length_append, List.length_set, List.length_nil, List.length_replicate, List.length_map, one_int, one_bool, one_slice, one_upd, one_lay, one_if, one_c, one_by8, one_row, one_sq, one_grp] <;> omega)) only [go_sem, ↓reduceIte, Nat.reduceEqDiff, Int.reduceAdd, Int.reduceSub]
  · rintro j env M ψ hj hf - ap ⟨rfl, rfl, e8, hk⟩ K hK
    have e0 := hf 0 (by kernel_rfl)
    have e1 := hf 1 (by kernel_rfl)
    have e7 := hf 7 (by kernel_rfl)
    simp (disch := first | omega | assumption | (simp only [tab_len, List.length_cons, List.length_append, List.length_set, List.length_nil, List.length_replicate, List.length_map, one_int, one_bool, one_slice, one_upd, one_lay, one_if, one_c, one_by8, one_row, one_sq, one_grp] <;> omega)) only [go_sem, ↓reduceIte, Nat.reduceEqDiff, Int.reduceAdd, Int.reduceSub] at e0
    simp (disch := first | omega | assumption | (simp only [tab_len, List.length_cons, List.length_append, List.length_set, List.length_nil, List.length_replicate, List.length_map, one_int, one_bool, one_slice, one_upd, one_lay, one_if, one_c, one_by8, one_row, one_sq, one_grp] <;> omega)) only [go_sem, ↓reduceIte, Nat.reduceEqDiff, Int.reduceAdd, Int.reduceSub] at e1
    simp (disch := first | omega | assumption | (simp only [tab_len, List.length_cons, List.length_append, List.length_set, List.length_nil, List.length_replicate, List.length_map, one_int, one_bool, one_slice, one_upd, one_lay, one_if, one_c, one_by8, one_row, one_sq, one_grp] <;> omega)) only [go_sem, ↓reduceIte, Nat.reduceEqDiff, Int.reduceAdd, Int.reduceSub] at e7
    simp (disch := first | omega | assumption | (simp only [tab_len, List.length_cons, List.length_append, List.length_set, List.length_nil, List.length_replicate, List.length_map, one_int, one_bool, one_slice, one_upd, one_lay, one_if, one_c, one_by8, one_row, one_sq, one_grp] <;> omega)) only [go_sem, ↓reduceIte, Nat.reduceEqDiff, Int.reduceAdd, Int.reduceSub, e7, e8]
    refine ifB_dec (fun h => ?_) (fun h => ?_)
    · simp (disch := first | omega | assumption | (simp only [tab_len, List.length_cons, List.length_append, List.length_set, List.length_nil, List.length_replicate, List.length_map, one_int, one_bool, one_slice, one_upd, one_lay, one_if, one_c, one_by8, one_row, one_sq, one_grp] <;> omega)) only [go_sem, ↓reduceIte, Nat.reduceEqDiff, Int.reduceAdd, Int.reduceSub, e0, e1, e7, e8]
      refine callB_gives (fn_times G _ b ty (by rw [all_none]; exact hb) i j hi (by omega)) ?_
      simp (disch := first | omega | assumption | (simp only [tab_len, List.length_cons, List.length_append, List.length_set, List.length_nil, List.length_replicate, List.length_map, one_int, one_bool, one_slice, one_upd, one_lay, one_if, one_c, one_by8, one_row, one_sq, one_grp] <;> omega)) only [go_sem, ↓reduceIte, Nat.reduceEqDiff, Int.reduceAdd, Int.reduceSub, e0, e1, e7, e8]
      by_cases h1 : ((G.T i j).toNat : Int) = 0
      · simp (disch := first | omega | assumption | (simp only [tab_len, List.length_cons, List.length_append, List.length_set, List.length_nil, List.length_replicate, List.length_map, one_int, one_bool, one_slice, one_upd, one_lay, one_if, one_c, one_by8, one_row, one_sq, one_grp] <;> omega)) only [go_sem, ↓reduceIte, Nat.reduceEqDiff, Int.reduceAdd, Int.reduceSub, h1, e0, e1, e7, e8]
        refine callB_gives (fn_times G _ b ty (by rw [all_none]; exact hb) j i (by omega) hi) ?_
        simp (disch := first | omega | assumption | (simp only [tab_len, List.length_cons, List.length_append, List.length_set, List.length_nil, List.length_replicate, List.length_map, one_int, one_bool, one_slice, one_upd, one_lay, one_if, one_c, one_by8, one_row, one_sq, one_grp] <;> omega)) only [go_sem, ↓reduceIte, Nat.reduceEqDiff, Int.reduceAdd, Int.reduceSub, h1, e0, e1, e7, e8]
        by_cases h2 : ((G.T j i).toNat : Int) = 0
        · simp (disch := first | omega | assumption | (simp only [tab_len, List.length_cons, List.length_append, List.length_set, List.length_nil, List.length_replicate, List.length_map, one_int, one_bool, one_slice, one_upd, one_lay, one_if, one_c, one_by8, one_row, one_sq, one_grp] <;> omega)) only [go_sem, ↓reduceIte, Nat.reduceEqDiff, Int.reduceAdd, Int.reduceSub, h2, e0, e1, e7, e8]
          exact up_plain (by rw [firstOr_at (by omega) ⟨by omega, by omega⟩ hk]) (fun _ => rfl) rfl
        · simp (disch := first | omega | assumption | (simp only [tab_len, List.length_cons, List.length_append, List.length_set, List.length_nil, List.length_replicate, List.length_map, one_int, one_bool, one_slice, one_upd, one_lay, one_if, one_c, one_by8, one_row, one_sq, one_grp] <;> omega)) only [go_sem, ↓reduceIte, Nat.reduceEqDiff, Int.reduceAdd, Int.reduceSub, h2, e0, e1, e7, e8]
          refine hK _ _ _ (by omega) (Up.here ⟨rfl, rfl, ?_, fun k hk' => ?_⟩)
          · simp (disch := first | omega | assumption | (simp only [tab_len, List.length_cons, List.length_append, List.length_set, List.length_nil, List.length_replicate, List.length_map, one_int, one_bool, one_slice, one_upd, one_lay, one_if, one_c, one_by8, one_row, one_sq, one_grp] <;> omega)) only [go_sem, ↓reduceIte, Nat.reduceEqDiff, Int.reduceAdd, Int.reduceSub]
          · by_cases hkj : k = j
            · subst hkj; omega
            · exact hk k (by omega)
      · simp (disch := first | omega | assumption | (simp only [tab_len, List.length_cons, List.length_append, List.length_set, List.length_nil, List.length_replicate, List.length_map, one_int, one_bool, one_slice, one_upd, one_lay, one_if, one_c, one_by8, one_row, one_sq, one_grp] <;> omega)) only [go_sem, ↓reduceIte, Nat.reduceEqDiff, Int.reduceAdd, Int.reduceSub, h1, e0, e1, e7, e8]
        refine hK _ _ _ (by omega) (Up.here ⟨rfl, rfl, ?_, fun k hk' => ?_⟩)
        · simp (disch := first | omega | assumption | (simp only [tab_len, List.length_cons, List.length_append, List.length_set, List.length_nil, List.length_replicate, List.length_map, one_int, one_bool, one_slice, one_upd, one_lay, one_if, one_c, one_by8, one_row, one_sq, one_grp] <;> omega)) only [go_sem, ↓reduceIte, Nat.reduceEqDiff, Int.reduceAdd, Int.reduceSub]
        · by_cases hkj : k = j
          · subst hkj; omega
          · exact hk k (by omega)
    · simp (disch := first | omega | assumption | (simp only [tab_len, List.length_cons, List.length_append, List.length_set, List.length_nil, List.length_replicate, List.length_map, one_int, one_bool, one_slice, one_upd, one_lay, one_if, one_c, one_by8, one_row, one_sq, one_grp] <;> omega)) only [go_sem, ↓reduceIte, Nat.reduceEqDiff, Int.reduceAdd, Int.reduceSub, e0, e1, e7, e8]
      exact up_plain (by rw [firstOr_none fun k hk' => hk k (by omega)]) (fun _ => rfl) rfl

/-- The entries of a group's table are inside it. -/
def inTab (G : Grp) (n i j : Nat) : Prop := if i < n ∧ j < n then (G.T i j).toNat < n else (G.T i j).toNat = 0
theorem fn_entriesOk (G : Grp) (κ : Mem) (b : Nat) (ty : TypeId) (hb : Has κ b ty (tab 37 (grpF G))) (n : Nat) (hn : G.n = n) (hn6 : n ≤ 6) :
    Gives Try.prog 56 [ptr b] κ (.bool (dec (∀ i < 6, ∀ j < 6, inTab G n i j))) := by
  have hb' := hb
  obtain ⟨tt, hb'⟩ := hb'
  refine gives_of (rs := [.tmp 2]) mixed Try.func56 rfl ok56 (by kernel_rfl) (by show 1 ≤ _; decide) rfl ?_
  simp (disch := first | omega | assumption | (simp only [tab_len, List.length_cons, List.length_append, List.length_set, List.length_nil, List.length_replicate, List.length_map, one_int, one_bool, one_slice, one_upd, one_lay, one_if, one_c, one_by8, one_row, one_sq, one_grp] <;> omega)) only [go_sem, ↓reduceIte, Nat.reduceEqDiff, Int.reduceAdd, Int.reduceSub]
  simp (disch := first | omega | assumption | (simp only [tab_len, List.length_cons, List.length_append, List.length_set, List.length_nil, List.length_replicate, List.length_map, one_int, one_bool, one_slice, one_upd, one_lay, one_if, one_c, one_by8, one_row, one_sq, one_grp] <;> omega)) only [go_sem, ↓reduceIte, Nat.reduceEqDiff, Int.reduceAdd, Int.reduceSub, hb', grp_sq]
  refine vc_up 6 0 (fun i env M ψ => ψ = none' ∧ env 12 = .int .i64 i ∧ ∀ i' < i, ∀ j < 6, inTab G n i' j) (by omega) ?_ ?_
  · refine ⟨rfl, ?_, fun k hk => (by omega)⟩
    simp (disch := first | omega | assumption | (simp only [tab_len, List.length_cons, List.length_append, List.length_set, List.length_nil, List.length_replicate, List.length_map, one_int, one_bool, one_slice, one_upd, one_lay, one_if, one_c, one_by8, one_row, one_sq, one_grp] <;> omega)) only [go_sem, ↓reduceIte, Nat.reduceEqDiff, Int.reduceAdd, Int.reduceSub]
  · rintro i env M ψ hi hf - ap ⟨rfl, e12, hk⟩ K hK
    have e0 := hf 0 (by kernel_rfl)
    have e11 := hf 11 (by kernel_rfl)
    simp (disch := first | omega | assumption | (simp only [tab_len, List.length_cons, List.length_append, List.length_set, List.length_nil, List.length_replicate, List.length_map, one_int, one_bool, one_slice, one_upd, one_lay, one_if, one_c, one_by8, one_row, one_sq, one_grp] <;> omega)) only [go_sem, ↓reduceIte, Nat.reduceEqDiff, Int.reduceAdd, Int.reduceSub] at e0
    simp (disch := first | omega | assumption | (simp only [tab_len, List.length_cons, List.length_append, List.length_set, List.length_nil, List.length_replicate, List.length_map, one_int, one_bool, one_slice, one_upd, one_lay, one_if, one_c, one_by8, one_row, one_sq, one_grp] <;> omega)) only [go_sem, ↓reduceIte, Nat.reduceEqDiff, Int.reduceAdd, Int.reduceSub] at e11
    simp (disch := first | omega | assumption | (simp only [tab_len, List.length_cons, List.length_append, List.length_set, List.length_nil, List.length_replicate, List.length_map, one_int, one_bool, one_slice, one_upd, one_lay, one_if, one_c, one_by8, one_row, one_sq, one_grp] <;> omega)) only [go_sem, ↓reduceIte, Nat.reduceEqDiff, Int.reduceAdd, Int.reduceSub, e12]
    refine ifB_dec (fun h => ?_) (fun h => ?_)
    · simp (disch := first | omega | assumption | (simp only [tab_len, List.length_cons, List.length_append, List.length_set, List.length_nil, List.length_replicate, List.length_map, one_int, one_bool, one_slice, one_upd, one_lay, one_if, one_c, one_by8, one_row, one_sq, one_grp] <;> omega)) only [go_sem, ↓reduceIte, Nat.reduceEqDiff, Int.reduceAdd, Int.reduceSub, e0, e11, e12]
      refine anew_intro fun p p1 p2 p3 => ?_
      have p0 := p1
      try simp only [upd_none] at p0
      simp (disch := first | omega | assumption | (simp only [tab_len, List.length_cons, List.length_append, List.length_set, List.length_nil, List.length_replicate, List.length_map, one_int, one_bool, one_slice, one_upd, one_lay, one_if, one_c, one_by8, one_row, one_sq, one_grp] <;> omega)) only [go_sem, ↓reduceIte, Nat.reduceEqDiff, Int.reduceAdd, Int.reduceSub, e0, e11, e12, sq_extract]
      refine vc_up 6 0 (fun j env M ψ => ψ = none' ∧ env 17 = .int .i64 j ∧ ∀ j' < j, inTab G n i j') (by omega) ?_ ?_
      · refine ⟨rfl, ?_, fun k hk => (by omega)⟩
        simp (disch := first | omega | assumption | (simp only [tab_len, List.length_cons, List.length_append, List.length_set, List.length_nil, List.length_replicate, List.length_map, one_int, one_bool, one_slice, one_upd, one_lay, one_if, one_c, one_by8, one_row, one_sq, one_grp] <;> omega)) only [go_sem, ↓reduceIte, Nat.reduceEqDiff, Int.reduceAdd, Int.reduceSub]
      · rintro j env2 M ψ hj hf2 - ap2 ⟨rfl, e17, hk2⟩ K2 hK2
        have u0 := hf2 0 (by kernel_rfl)
        have u3 := hf2 3 (by kernel_rfl)
        have u12 := hf2 12 (by kernel_rfl)
        have u16 := hf2 16 (by kernel_rfl)
        simp (disch := first | omega | assumption | (simp only [tab_len, List.length_cons, List.length_append, List.length_set, List.length_nil, List.length_replicate, List.length_map, one_int, one_bool, one_slice, one_upd, one_lay, one_if, one_c, one_by8, one_row, one_sq, one_grp] <;> omega)) only [go_sem, ↓reduceIte, Nat.reduceEqDiff, Int.reduceAdd, Int.reduceSub, e0, e11, e12, sq_extract] at u0
        simp (disch := first | omega | assumption | (simp only [tab_len, List.length_cons, List.length_append, List.length_set, List.length_nil, List.length_replicate, List.length_map, one_int, one_bool, one_slice, one_upd, one_lay, one_if, one_c, one_by8, one_row, one_sq, one_grp] <;> omega)) only [go_sem, ↓reduceIte, Nat.reduceEqDiff, Int.reduceAdd, Int.reduceSub, e0, e11, e12, sq_extract] at u3
        simp (disch := first | omega | assumption | (simp only [tab_len, List.length_cons, List.length_append, List.length_set, List.length_nil, List.length_replicate, List.length_map, one_int, one_bool, one_slice, one_upd, one_lay, one_if, one_c, one_by8, one_row, one_sq, one_grp] <;> omega)) only [go_sem, ↓reduceIte, Nat.reduceEqDiff, Int.reduceAdd, Int.reduceSub, e0, e11, e12, sq_extract] at u12
        simp (disch := first | omega | assumption | (simp only [tab_len, List.length_cons, List.length_append, List.length_set, List.length_nil, List.length_replicate, List.length_map, one_int, one_bool, one_slice, one_upd, one_lay, one_if, one_c, one_by8, one_row, one_sq, one_grp] <;> omega)) only [go_sem, ↓reduceIte, Nat.reduceEqDiff, Int.reduceAdd, Int.reduceSub, e0, e11, e12, sq_extract] at u16
        simp (disch := first | omega | assumption | (simp only [tab_len, List.length_cons, List.length_append, List.length_set, List.length_nil, List.length_replicate, List.length_map, one_int, one_bool, one_slice, one_upd, one_lay, one_if, one_c, one_by8, one_row, one_sq, one_grp] <;> omega)) only [go_sem, ↓reduceIte, Nat.reduceEqDiff, Int.reduceAdd, Int.reduceSub, e17]
        refine ifB_dec (fun h2 => ?_) (fun h2 => ?_)
        · simp (disch := first | omega | assumption | (simp only [tab_len, List.length_cons, List.length_append, List.length_set, List.length_nil, List.length_replicate, List.length_map, one_int, one_bool, one_slice, one_upd, one_lay, one_if, one_c, one_by8, one_row, one_sq, one_grp] <;> omega)) only [go_sem, ↓reduceIte, Nat.reduceEqDiff, Int.reduceAdd, Int.reduceSub, u0, u3, u12, u16, e17, rowF]
          refine callB_gives (fn_n G _ b ty (ap2.has hb)) ?_
          simp (disch := first | omega | assumption | (simp only [tab_len, List.length_cons, List.length_append, List.length_set, List.length_nil, List.length_replicate, List.length_map, one_int, one_bool, one_slice, one_upd, one_lay, one_if, one_c, one_by8, one_row, one_sq, one_grp] <;> omega)) only [go_sem, ↓reduceIte, Nat.reduceEqDiff, Int.reduceAdd, Int.reduceSub, u0, u3, u12, u16, e17, hn, rowF]
          have hlt := (G.T i j).toNat_lt
          have hM := ((ap2 b _).1 hb').1
          have go : ∀ (x : Prop), ((inTab G n i j) ↔ x) → x → ∀ j' < j + 1, inTab G n i j' := fun x hx h' j' hj' => by
            by_cases hjj : j' = j
            · subst hjj; exact hx.2 h'
            · exact hk2 j' (by omega)
          by_cases h3 : (i : Int) < (n : Int)
          · simp (disch := first | omega | assumption | (simp only [tab_len, List.length_cons, List.length_append, List.length_set, List.length_nil, List.length_replicate, List.length_map, one_int, one_bool, one_slice, one_upd, one_lay, one_if, one_c, one_by8, one_row, one_sq, one_grp] <;> omega)) only [go_sem, ↓reduceIte, Nat.reduceEqDiff, Int.reduceAdd, Int.reduceSub, u0, u3, u12, u16, e17, hn, rowF, h3]
            refine callB_gives (fn_n G _ b ty (ap2.has hb)) ?_
            simp (disch := first | omega | assumption | (simp only [tab_len, List.length_cons, List.length_append, List.length_set, List.length_nil, List.length_replicate, List.length_map, one_int, one_bool, one_slice, one_upd, one_lay, one_if, one_c, one_by8, one_row, one_sq, one_grp] <;> omega)) only [go_sem, ↓reduceIte, Nat.reduceEqDiff, Int.reduceAdd, Int.reduceSub, u0, u3, u12, u16, e17, hn, rowF, h3]
            by_cases h4 : (j : Int) < (n : Int)
            · simp (disch := first | omega | assumption | (simp only [tab_len, List.length_cons, List.length_append, List.length_set, List.length_nil, List.length_replicate, List.length_map, one_int, one_bool, one_slice, one_upd, one_lay, one_if, one_c, one_by8, one_row, one_sq, one_grp] <;> omega)) only [go_sem, ↓reduceIte, Nat.reduceEqDiff, Int.reduceAdd, Int.reduceSub, u0, u3, u12, u16, e17, hn, rowF, h3, h4, hb', hM, grpF_0]
              by_cases h5 : (n : Int) ≤ ((G.T i j).toNat : Int)
              · simp (disch := first | omega | assumption | (simp only [tab_len, List.length_cons, List.length_append, List.length_set, List.length_nil, List.length_replicate, List.length_map, one_int, one_bool, one_slice, one_upd, one_lay, one_if, one_c, one_by8, one_row, one_sq, one_grp] <;> omega)) only [go_sem, ↓reduceIte, Nat.reduceEqDiff, Int.reduceAdd, Int.reduceSub, u0, u3, u12, u16, e17, hn, rowF, h3, h4, h5]
                refine up_plain ?_ (fun _ => rfl) rfl; rw [dec_false fun h' => ?_]; have := h' i (by omega) j (by omega); unfold inTab at this; rw [if_pos (by omega)] at this; omega
              · simp (disch := first | omega | assumption | (simp only [tab_len, List.length_cons, List.length_append, List.length_set, List.length_nil, List.length_replicate, List.length_map, one_int, one_bool, one_slice, one_upd, one_lay, one_if, one_c, one_by8, one_row, one_sq, one_grp] <;> omega)) only [go_sem, ↓reduceIte, Nat.reduceEqDiff, Int.reduceAdd, Int.reduceSub, u0, u3, u12, u16, e17, hn, rowF, h3, h4, h5]
                refine hK2 _ _ _ (by omega) (Up.here ⟨rfl, ?_, go ((G.T i j).toNat < n) (by unfold inTab; rw [if_pos (by omega)]) (by omega)⟩)
                simp (disch := first | omega | assumption | (simp only [tab_len, List.length_cons, List.length_append, List.length_set, List.length_nil, List.length_replicate, List.length_map, one_int, one_bool, one_slice, one_upd, one_lay, one_if, one_c, one_by8, one_row, one_sq, one_grp] <;> omega)) only [go_sem, ↓reduceIte, Nat.reduceEqDiff, Int.reduceAdd, Int.reduceSub]
            · simp (disch := first | omega | assumption | (simp only [tab_len, List.length_cons, List.length_append, List.length_set, List.length_nil, List.length_replicate, List.length_map, one_int, one_bool, one_slice, one_upd, one_lay, one_if, one_c, one_by8, one_row, one_sq, one_grp] <;> omega)) only [go_sem, ↓reduceIte, Nat.reduceEqDiff, Int.reduceAdd, Int.reduceSub, u0, u3, u12, u16, e17, hn, rowF, h3, h4]
              refine ifB_ndec (fun h5 => ?_) (fun h5 => ?_)
              · simp (disch := first | omega | assumption | (simp only [tab_len, List.length_cons, List.length_append, List.length_set, List.length_nil, List.length_replicate, List.length_map, one_int, one_bool, one_slice, one_upd, one_lay, one_if, one_c, one_by8, one_row, one_sq, one_grp] <;> omega)) only [go_sem, ↓reduceIte, Nat.reduceEqDiff, Int.reduceAdd, Int.reduceSub]
                refine up_plain ?_ (fun _ => rfl) rfl; rw [dec_false fun h' => ?_]; have := h' i (by omega) j (by omega); unfold inTab at this; rw [if_neg (by omega)] at this; omega
              · simp (disch := first | omega | assumption | (simp only [tab_len, List.length_cons, List.length_append, List.length_set, List.length_nil, List.length_replicate, List.length_map, one_int, one_bool, one_slice, one_upd, one_lay, one_if, one_c, one_by8, one_row, one_sq, one_grp] <;> omega)) only [go_sem, ↓reduceIte, Nat.reduceEqDiff, Int.reduceAdd, Int.reduceSub, e17]
                refine hK2 _ _ _ (by omega) (Up.here ⟨rfl, ?_, go ((G.T i j).toNat = 0) (by unfold inTab; rw [if_neg (by omega)]) (by omega)⟩)
                simp (disch := first | omega | assumption | (simp only [tab_len, List.length_cons, List.length_append, List.length_set, List.length_nil, List.length_replicate, List.length_map, one_int, one_bool, one_slice, one_upd, one_lay, one_if, one_c, one_by8, one_row, one_sq, one_grp] <;> omega)) only [go_sem, ↓reduceIte, Nat.reduceEqDiff, Int.reduceAdd, Int.reduceSub]
          · simp (disch := first | omega | assumption | (simp only [tab_len, List.length_cons, List.length_append, List.length_set, List.length_nil, List.length_replicate, List.length_map, one_int, one_bool, one_slice, one_upd, one_lay, one_if, one_c, one_by8, one_row, one_sq, one_grp] <;> omega)) only [go_sem, ↓reduceIte, Nat.reduceEqDiff, Int.reduceAdd, Int.reduceSub, u0, u3, u12, u16, e17, hn, rowF, h3]
            refine ifB_ndec (fun h5 => ?_) (fun h5 => ?_)
            · simp (disch := first | omega | assumption | (simp only [tab_len, List.length_cons, List.length_append, List.length_set, List.length_nil, List.length_replicate, List.length_map, one_int, one_bool, one_slice, one_upd, one_lay, one_if, one_c, one_by8, one_row, one_sq, one_grp] <;> omega)) only [go_sem, ↓reduceIte, Nat.reduceEqDiff, Int.reduceAdd, Int.reduceSub]
              refine up_plain ?_ (fun _ => rfl) rfl; rw [dec_false fun h' => ?_]; have := h' i (by omega) j (by omega); unfold inTab at this; rw [if_neg (by omega)] at this; omega
            · simp (disch := first | omega | assumption | (simp only [tab_len, List.length_cons, List.length_append, List.length_set, List.length_nil, List.length_replicate, List.length_map, one_int, one_bool, one_slice, one_upd, one_lay, one_if, one_c, one_by8, one_row, one_sq, one_grp] <;> omega)) only [go_sem, ↓reduceIte, Nat.reduceEqDiff, Int.reduceAdd, Int.reduceSub, e17]
              refine hK2 _ _ _ (by omega) (Up.here ⟨rfl, ?_, go ((G.T i j).toNat = 0) (by unfold inTab; rw [if_neg (by omega)]) (by omega)⟩)
              simp (disch := first | omega | assumption | (simp only [tab_len, List.length_cons, List.length_append, List.length_set, List.length_nil, List.length_replicate, List.length_map, one_int, one_bool, one_slice, one_upd, one_lay, one_if, one_c, one_by8, one_row, one_sq, one_grp] <;> omega)) only [go_sem, ↓reduceIte, Nat.reduceEqDiff, Int.reduceAdd, Int.reduceSub]
        · simp (disch := first | omega | assumption | (simp only [tab_len, List.length_cons, List.length_append, List.length_set, List.length_nil, List.length_replicate, List.length_map, one_int, one_bool, one_slice, one_upd, one_lay, one_if, one_c, one_by8, one_row, one_sq, one_grp] <;> omega)) only [go_sem, ↓reduceIte, Nat.reduceEqDiff, Int.reduceAdd, Int.reduceSub, u0, u3, u12, u16, e17]
          refine hK _ _ _ (by omega) (Up.here ⟨rfl, ?_, fun i' hi' => ?_⟩)
          · simp (disch := first | omega | assumption | (simp only [tab_len, List.length_cons, List.length_append, List.length_set, List.length_nil, List.length_replicate, List.length_map, one_int, one_bool, one_slice, one_upd, one_lay, one_if, one_c, one_by8, one_row, one_sq, one_grp] <;> omega)) only [go_sem, ↓reduceIte, Nat.reduceEqDiff, Int.reduceAdd, Int.reduceSub, u12]
          · by_cases hii : i' = i
            · subst hii; exact fun j hj => hk2 j (by omega)
            · exact hk i' (by omega)
    · simp (disch := first | omega | assumption | (simp only [tab_len, List.length_cons, List.length_append, List.length_set, List.length_nil, List.length_replicate, List.length_map, one_int, one_bool, one_slice, one_upd, one_lay, one_if, one_c, one_by8, one_row, one_sq, one_grp] <;> omega)) only [go_sem, ↓reduceIte, Nat.reduceEqDiff, Int.reduceAdd, Int.reduceSub, e0, e11, e12]
      exact up_plain (by rw [dec_true fun i hi => hk i (by omega)]) (fun _ => rfl) rfl

/-- A group. -/
def IsG (G : Grp) (n : Nat) : Prop := (1 ≤ n ∧ n ≤ 6) ∧ (∀ i < 6, ∀ j < 6, inTab G n i j) ∧
  ∀ i < n, ((G.T 0 i).toNat = i ∧ (G.T i 0).toNat = i ∧ ∃ j < n, (G.T i j).toNat = 0 ∧ (G.T j i).toNat = 0) ∧
    ∀ j < n, ∀ k < n, G.T (G.T i j).toNat k = G.T i (G.T j k).toNat
def IsGr (G : Grp) : Prop := ∃ n : Nat, G.n = n ∧ IsG G n
theorem fn_isGroup (G : Grp) (κ : Mem) : Gives Try.prog 41 [.agg (tab 37 (grpF G)).toArray] κ (.bool (dec (IsGr G))) := by
  refine gives_of (rs := [.tmp 2]) mixed Try.func41 rfl ok41 (by kernel_rfl) (by show 1 ≤ _; decide) rfl ?_
  simp (disch := first | omega | assumption | (simp only [tab_len, List.length_cons, List.length_append, List.length_set, List.length_nil, List.length_replicate, List.length_map, one_int, one_bool, one_slice, one_upd, one_lay, one_if, one_c, one_by8, one_row, one_sq, one_grp] <;> omega)) only [go_sem, ↓reduceIte, Nat.reduceEqDiff, Int.reduceAdd, Int.reduceSub]
  refine anew_intro fun p p1 p2 p3 => ?_
  have p0 := p1
  try simp only [upd_none] at p0
  simp (disch := first | omega | assumption | (simp only [tab_len, List.length_cons, List.length_append, List.length_set, List.length_nil, List.length_replicate, List.length_map, one_int, one_bool, one_slice, one_upd, one_lay, one_if, one_c, one_by8, one_row, one_sq, one_grp] <;> omega)) only [go_sem, ↓reduceIte, Nat.reduceEqDiff, Int.reduceAdd, Int.reduceSub, grpF_0]
  refine callB_gives (fn_in _ _ 1 6) ?_
  simp (disch := first | omega | assumption | (simp only [tab_len, List.length_cons, List.length_append, List.length_set, List.length_nil, List.length_replicate, List.length_map, one_int, one_bool, one_slice, one_upd, one_lay, one_if, one_c, one_by8, one_row, one_sq, one_grp] <;> omega)) only [go_sem, ↓reduceIte, Nat.reduceEqDiff, Int.reduceAdd, Int.reduceSub]
  by_cases h1 : 1 ≤ G.n ∧ G.n ≤ 6
  · obtain ⟨n, hn⟩ : ∃ n : Nat, G.n = n := ⟨G.n.toNat, by omega⟩
    have hp : Has (all κ none' (upd none' p (some ⟨35, tab 37 (grpF G), (tab 37 (grpF G)).length⟩))) p 35 (tab 37 (grpF G)) := has_own (by rw [has_same]; exact ⟨rfl, rfl⟩)
    simp (disch := first | omega | assumption | (simp only [tab_len, List.length_cons, List.length_append, List.length_set, List.length_nil, List.length_replicate, List.length_map, one_int, one_bool, one_slice, one_upd, one_lay, one_if, one_c, one_by8, one_row, one_sq, one_grp] <;> omega)) only [go_sem, ↓reduceIte, Nat.reduceEqDiff, Int.reduceAdd, Int.reduceSub, h1]
    refine callB_gives (fn_entriesOk G _ p 35 hp n hn (by omega)) ?_
    simp (disch := first | omega | assumption | (simp only [tab_len, List.length_cons, List.length_append, List.length_set, List.length_nil, List.length_replicate, List.length_map, one_int, one_bool, one_slice, one_upd, one_lay, one_if, one_c, one_by8, one_row, one_sq, one_grp] <;> omega)) only [go_sem, ↓reduceIte, Nat.reduceEqDiff, Int.reduceAdd, Int.reduceSub, h1]
    by_cases h2 : ∀ i < 6, ∀ j < 6, inTab G n i j
    · rw [dec_true h2]
      simp (disch := first | omega | assumption | (simp only [tab_len, List.length_cons, List.length_append, List.length_set, List.length_nil, List.length_replicate, List.length_map, one_int, one_bool, one_slice, one_upd, one_lay, one_if, one_c, one_by8, one_row, one_sq, one_grp] <;> omega)) only [go_sem, ↓reduceIte, Nat.reduceEqDiff, Int.reduceAdd, Int.reduceSub, h1]
      refine callB_gives (fn_n G _ p 35 hp) ?_
      simp (disch := first | omega | assumption | (simp only [tab_len, List.length_cons, List.length_append, List.length_set, List.length_nil, List.length_replicate, List.length_map, one_int, one_bool, one_slice, one_upd, one_lay, one_if, one_c, one_by8, one_row, one_sq, one_grp] <;> omega)) only [go_sem, ↓reduceIte, Nat.reduceEqDiff, Int.reduceAdd, Int.reduceSub, hn]
      have hT : ∀ i j, i < n → j < n → (G.T i j).toNat < n := fun i j hi hj => by
        have := h2 i (by omega) j (by omega); unfold inTab at this; rwa [if_pos ⟨hi, hj⟩] at this
      generalize (upd none' p (some (⟨35, tab 37 (grpF G), (tab 37 (grpF G)).length⟩ : Ent))) = M0 at hp ⊢
      refine vc_up n 0 (fun i env M ψ => ψ = none' ∧ M0 = M ∧ env 15 = .int .i64 i ∧ ∀ a < i, ((G.T 0 a).toNat = a ∧ (G.T a 0).toNat = a ∧ ∃ j < n, (G.T a j).toNat = 0 ∧ (G.T j a).toNat = 0) ∧
        ∀ j < n, ∀ k < n, G.T (G.T a j).toNat k = G.T a (G.T j k).toNat) (by omega) ?_ ?_
      · refine ⟨rfl, rfl, ?_, fun k hk => (by omega)⟩
        simp (disch := first | omega | assumption | (simp only [tab_len, List.length_cons, List.length_append, List.length_set, List.length_nil, List.length_replicate, List.length_map, one_int, one_bool, one_slice, one_upd, one_lay, one_if, one_c, one_by8, one_row, one_sq, one_grp] <;> omega)) only [go_sem, ↓reduceIte, Nat.reduceEqDiff, Int.reduceAdd, Int.reduceSub]
      · rintro i env M ψ hi hf - ap ⟨rfl, rfl, e15, hk⟩ K hK
        have e1 := hf 1 (by kernel_rfl)
        have e14 := hf 14 (by kernel_rfl)
        simp (disch := first | omega | assumption | (simp only [tab_len, List.length_cons, List.length_append, List.length_set, List.length_nil, List.length_replicate, List.length_map, one_int, one_bool, one_slice, one_upd, one_lay, one_if, one_c, one_by8, one_row, one_sq, one_grp] <;> omega)) only [go_sem, ↓reduceIte, Nat.reduceEqDiff, Int.reduceAdd, Int.reduceSub] at e1
        simp (disch := first | omega | assumption | (simp only [tab_len, List.length_cons, List.length_append, List.length_set, List.length_nil, List.length_replicate, List.length_map, one_int, one_bool, one_slice, one_upd, one_lay, one_if, one_c, one_by8, one_row, one_sq, one_grp] <;> omega)) only [go_sem, ↓reduceIte, Nat.reduceEqDiff, Int.reduceAdd, Int.reduceSub] at e14
        simp (disch := first | omega | assumption | (simp only [tab_len, List.length_cons, List.length_append, List.length_set, List.length_nil, List.length_replicate, List.length_map, one_int, one_bool, one_slice, one_upd, one_lay, one_if, one_c, one_by8, one_row, one_sq, one_grp] <;> omega)) only [go_sem, ↓reduceIte, Nat.reduceEqDiff, Int.reduceAdd, Int.reduceSub, e14, e15]
        refine ifB_dec (fun h => ?_) (fun h => ?_)
        · simp (disch := first | omega | assumption | (simp only [tab_len, List.length_cons, List.length_append, List.length_set, List.length_nil, List.length_replicate, List.length_map, one_int, one_bool, one_slice, one_upd, one_lay, one_if, one_c, one_by8, one_row, one_sq, one_grp] <;> omega)) only [go_sem, ↓reduceIte, Nat.reduceEqDiff, Int.reduceAdd, Int.reduceSub, e1, e14, e15]
          refine callB_gives (fn_times G _ p 35 hp 0 i (by omega) (by omega)) ?_
          simp (disch := first | omega | assumption | (simp only [tab_len, List.length_cons, List.length_append, List.length_set, List.length_nil, List.length_replicate, List.length_map, one_int, one_bool, one_slice, one_upd, one_lay, one_if, one_c, one_by8, one_row, one_sq, one_grp] <;> omega)) only [go_sem, ↓reduceIte, Nat.reduceEqDiff, Int.reduceAdd, Int.reduceSub, e1, e14, e15]
          by_cases h3 : ((G.T 0 i).toNat : Int) = i
          · simp (disch := first | omega | assumption | (simp only [tab_len, List.length_cons, List.length_append, List.length_set, List.length_nil, List.length_replicate, List.length_map, one_int, one_bool, one_slice, one_upd, one_lay, one_if, one_c, one_by8, one_row, one_sq, one_grp] <;> omega)) only [go_sem, ↓reduceIte, Nat.reduceEqDiff, Int.reduceAdd, Int.reduceSub, h3, e1, e14, e15]
            refine callB_gives (fn_times G _ p 35 hp i 0 (by omega) (by omega)) ?_
            simp (disch := first | omega | assumption | (simp only [tab_len, List.length_cons, List.length_append, List.length_set, List.length_nil, List.length_replicate, List.length_map, one_int, one_bool, one_slice, one_upd, one_lay, one_if, one_c, one_by8, one_row, one_sq, one_grp] <;> omega)) only [go_sem, ↓reduceIte, Nat.reduceEqDiff, Int.reduceAdd, Int.reduceSub, h3, e1, e14, e15]
            by_cases h4 : ((G.T i 0).toNat : Int) = i
            · simp (disch := first | omega | assumption | (simp only [tab_len, List.length_cons, List.length_append, List.length_set, List.length_nil, List.length_replicate, List.length_map, one_int, one_bool, one_slice, one_upd, one_lay, one_if, one_c, one_by8, one_row, one_sq, one_grp] <;> omega)) only [go_sem, ↓reduceIte, Nat.reduceEqDiff, Int.reduceAdd, Int.reduceSub, h3, h4, e1, e14, e15]
              refine callB_gives (fn_inverse G _ p 35 hp n hn (by omega) i (by omega)) ?_
              simp (disch := first | omega | assumption | (simp only [tab_len, List.length_cons, List.length_append, List.length_set, List.length_nil, List.length_replicate, List.length_map, one_int, one_bool, one_slice, one_upd, one_lay, one_if, one_c, one_by8, one_row, one_sq, one_grp] <;> omega)) only [go_sem, ↓reduceIte, Nat.reduceEqDiff, Int.reduceAdd, Int.reduceSub, h3, h4, e1, e14, e15]
              by_cases h5 : ∃ j < n, (G.T i j).toNat = 0 ∧ (G.T j i).toNat = 0
              · have h5' := mt firstOr_neg.1 (not_not_intro h5)
                simp (disch := first | omega | assumption | (simp only [tab_len, List.length_cons, List.length_append, List.length_set, List.length_nil, List.length_replicate, List.length_map, one_int, one_bool, one_slice, one_upd, one_lay, one_if, one_c, one_by8, one_row, one_sq, one_grp] <;> omega)) only [go_sem, ↓reduceIte, Nat.reduceEqDiff, Int.reduceAdd, Int.reduceSub, h3, h4, h5', e1, e14, e15]
                refine callB_gives (fn_n G _ p 35 hp) ?_
                simp (disch := first | omega | assumption | (simp only [tab_len, List.length_cons, List.length_append, List.length_set, List.length_nil, List.length_replicate, List.length_map, one_int, one_bool, one_slice, one_upd, one_lay, one_if, one_c, one_by8, one_row, one_sq, one_grp] <;> omega)) only [go_sem, ↓reduceIte, Nat.reduceEqDiff, Int.reduceAdd, Int.reduceSub, h3, h4, h5', e1, e14, e15, hn]
                refine vc_up n 0 (fun j env M ψ => ψ = none' ∧ M0 = M ∧ env 34 = .int .i64 j ∧ ∀ b < j, ∀ k < n, G.T (G.T i b).toNat k = G.T i (G.T b k).toNat) (by omega) ?_ ?_
                · refine ⟨rfl, rfl, ?_, fun k hk => (by omega)⟩
                  simp (disch := first | omega | assumption | (simp only [tab_len, List.length_cons, List.length_append, List.length_set, List.length_nil, List.length_replicate, List.length_map, one_int, one_bool, one_slice, one_upd, one_lay, one_if, one_c, one_by8, one_row, one_sq, one_grp] <;> omega)) only [go_sem, ↓reduceIte, Nat.reduceEqDiff, Int.reduceAdd, Int.reduceSub]
                · rintro j env2 M ψ hj hf2 - ap2 ⟨rfl, rfl, e34, hk2⟩ K2 hK2
                  have u1 := hf2 1 (by kernel_rfl)
                  have u3 := hf2 3 (by kernel_rfl)
                  have u15 := hf2 15 (by kernel_rfl)
                  have u33 := hf2 33 (by kernel_rfl)
                  simp (disch := first | omega | assumption | (simp only [tab_len, List.length_cons, List.length_append, List.length_set, List.length_nil, List.length_replicate, List.length_map, one_int, one_bool, one_slice, one_upd, one_lay, one_if, one_c, one_by8, one_row, one_sq, one_grp] <;> omega)) only [go_sem, ↓reduceIte, Nat.reduceEqDiff, Int.reduceAdd, Int.reduceSub, e1, e15] at u1
                  simp (disch := first | omega | assumption | (simp only [tab_len, List.length_cons, List.length_append, List.length_set, List.length_nil, List.length_replicate, List.length_map, one_int, one_bool, one_slice, one_upd, one_lay, one_if, one_c, one_by8, one_row, one_sq, one_grp] <;> omega)) only [go_sem, ↓reduceIte, Nat.reduceEqDiff, Int.reduceAdd, Int.reduceSub, e1, e15] at u3
                  simp (disch := first | omega | assumption | (simp only [tab_len, List.length_cons, List.length_append, List.length_set, List.length_nil, List.length_replicate, List.length_map, one_int, one_bool, one_slice, one_upd, one_lay, one_if, one_c, one_by8, one_row, one_sq, one_grp] <;> omega)) only [go_sem, ↓reduceIte, Nat.reduceEqDiff, Int.reduceAdd, Int.reduceSub, e1, e15] at u15
                  simp (disch := first | omega | assumption | (simp only [tab_len, List.length_cons, List.length_append, List.length_set, List.length_nil, List.length_replicate, List.length_map, one_int, one_bool, one_slice, one_upd, one_lay, one_if, one_c, one_by8, one_row, one_sq, one_grp] <;> omega)) only [go_sem, ↓reduceIte, Nat.reduceEqDiff, Int.reduceAdd, Int.reduceSub, e1, e15] at u33
                  simp (disch := first | omega | assumption | (simp only [tab_len, List.length_cons, List.length_append, List.length_set, List.length_nil, List.length_replicate, List.length_map, one_int, one_bool, one_slice, one_upd, one_lay, one_if, one_c, one_by8, one_row, one_sq, one_grp] <;> omega)) only [go_sem, ↓reduceIte, Nat.reduceEqDiff, Int.reduceAdd, Int.reduceSub, u33, e34]
                  refine ifB_dec (fun h6 => ?_) (fun h6 => ?_)
                  · simp (disch := first | omega | assumption | (simp only [tab_len, List.length_cons, List.length_append, List.length_set, List.length_nil, List.length_replicate, List.length_map, one_int, one_bool, one_slice, one_upd, one_lay, one_if, one_c, one_by8, one_row, one_sq, one_grp] <;> omega)) only [go_sem, ↓reduceIte, Nat.reduceEqDiff, Int.reduceAdd, Int.reduceSub, u1, u3, u15, u33, e34]
                    refine callB_gives (fn_n G _ p 35 hp) ?_
                    simp (disch := first | omega | assumption | (simp only [tab_len, List.length_cons, List.length_append, List.length_set, List.length_nil, List.length_replicate, List.length_map, one_int, one_bool, one_slice, one_upd, one_lay, one_if, one_c, one_by8, one_row, one_sq, one_grp] <;> omega)) only [go_sem, ↓reduceIte, Nat.reduceEqDiff, Int.reduceAdd, Int.reduceSub, u1, u3, u15, u33, e34, hn]
                    refine vc_up n 0 (fun k env M ψ => ψ = none' ∧ M0 = M ∧ env 38 = .int .i64 k ∧ ∀ c < k, G.T (G.T i j).toNat c = G.T i (G.T j c).toNat) (by omega) ?_ ?_
                    · refine ⟨rfl, rfl, ?_, fun k hk => (by omega)⟩
                      simp (disch := first | omega | assumption | (simp only [tab_len, List.length_cons, List.length_append, List.length_set, List.length_nil, List.length_replicate, List.length_map, one_int, one_bool, one_slice, one_upd, one_lay, one_if, one_c, one_by8, one_row, one_sq, one_grp] <;> omega)) only [go_sem, ↓reduceIte, Nat.reduceEqDiff, Int.reduceAdd, Int.reduceSub]
                    · rintro k env3 M ψ hkn hf3 - ap3 ⟨rfl, rfl, e38, hk3⟩ K3 hK3
                      have v1 := hf3 1 (by kernel_rfl)
                      have v3 := hf3 3 (by kernel_rfl)
                      have v4 := hf3 4 (by kernel_rfl)
                      have v15 := hf3 15 (by kernel_rfl)
                      have v34 := hf3 34 (by kernel_rfl)
                      have v37 := hf3 37 (by kernel_rfl)
                      simp (disch := first | omega | assumption | (simp only [tab_len, List.length_cons, List.length_append, List.length_set, List.length_nil, List.length_replicate, List.length_map, one_int, one_bool, one_slice, one_upd, one_lay, one_if, one_c, one_by8, one_row, one_sq, one_grp] <;> omega)) only [go_sem, ↓reduceIte, Nat.reduceEqDiff, Int.reduceAdd, Int.reduceSub, u1, u3, u15, e34] at v1
                      simp (disch := first | omega | assumption | (simp only [tab_len, List.length_cons, List.length_append, List.length_set, List.length_nil, List.length_replicate, List.length_map, one_int, one_bool, one_slice, one_upd, one_lay, one_if, one_c, one_by8, one_row, one_sq, one_grp] <;> omega)) only [go_sem, ↓reduceIte, Nat.reduceEqDiff, Int.reduceAdd, Int.reduceSub, u1, u3, u15, e34] at v3
                      simp (disch := first | omega | assumption | (simp only [tab_len, List.length_cons, List.length_append, List.length_set, List.length_nil, List.length_replicate, List.length_map, one_int, one_bool, one_slice, one_upd, one_lay, one_if, one_c, one_by8, one_row, one_sq, one_grp] <;> omega)) only [go_sem, ↓reduceIte, Nat.reduceEqDiff, Int.reduceAdd, Int.reduceSub, u1, u3, u15, e34] at v4
                      simp (disch := first | omega | assumption | (simp only [tab_len, List.length_cons, List.length_append, List.length_set, List.length_nil, List.length_replicate, List.length_map, one_int, one_bool, one_slice, one_upd, one_lay, one_if, one_c, one_by8, one_row, one_sq, one_grp] <;> omega)) only [go_sem, ↓reduceIte, Nat.reduceEqDiff, Int.reduceAdd, Int.reduceSub, u1, u3, u15, e34] at v15
                      simp (disch := first | omega | assumption | (simp only [tab_len, List.length_cons, List.length_append, List.length_set, List.length_nil, List.length_replicate, List.length_map, one_int, one_bool, one_slice, one_upd, one_lay, one_if, one_c, one_by8, one_row, one_sq, one_grp] <;> omega)) only [go_sem, ↓reduceIte, Nat.reduceEqDiff, Int.reduceAdd, Int.reduceSub, u1, u3, u15, e34] at v34
                      simp (disch := first | omega | assumption | (simp only [tab_len, List.length_cons, List.length_append, List.length_set, List.length_nil, List.length_replicate, List.length_map, one_int, one_bool, one_slice, one_upd, one_lay, one_if, one_c, one_by8, one_row, one_sq, one_grp] <;> omega)) only [go_sem, ↓reduceIte, Nat.reduceEqDiff, Int.reduceAdd, Int.reduceSub, u1, u3, u15, e34] at v37
                      simp (disch := first | omega | assumption | (simp only [tab_len, List.length_cons, List.length_append, List.length_set, List.length_nil, List.length_replicate, List.length_map, one_int, one_bool, one_slice, one_upd, one_lay, one_if, one_c, one_by8, one_row, one_sq, one_grp] <;> omega)) only [go_sem, ↓reduceIte, Nat.reduceEqDiff, Int.reduceAdd, Int.reduceSub, v37, e38]
                      refine ifB_dec (fun h7 => ?_) (fun h7 => ?_)
                      · have q1 := hT i j (by omega) (by omega)
                        have q2 := hT j k (by omega) (by omega)
                        simp (disch := first | omega | assumption | (simp only [tab_len, List.length_cons, List.length_append, List.length_set, List.length_nil, List.length_replicate, List.length_map, one_int, one_bool, one_slice, one_upd, one_lay, one_if, one_c, one_by8, one_row, one_sq, one_grp] <;> omega)) only [go_sem, ↓reduceIte, Nat.reduceEqDiff, Int.reduceAdd, Int.reduceSub, v1, v3, v4, v37, e38]
                        refine callB_gives (fn_times G _ p 35 hp i j (by omega) (by omega)) ?_
                        simp (disch := first | omega | assumption | (simp only [tab_len, List.length_cons, List.length_append, List.length_set, List.length_nil, List.length_replicate, List.length_map, one_int, one_bool, one_slice, one_upd, one_lay, one_if, one_c, one_by8, one_row, one_sq, one_grp] <;> omega)) only [go_sem, ↓reduceIte, Nat.reduceEqDiff, Int.reduceAdd, Int.reduceSub, v1, v3, v4, v37, e38]
                        refine callB_gives (fn_times G _ p 35 hp (G.T i j).toNat k (by omega) (by omega)) ?_
                        simp (disch := first | omega | assumption | (simp only [tab_len, List.length_cons, List.length_append, List.length_set, List.length_nil, List.length_replicate, List.length_map, one_int, one_bool, one_slice, one_upd, one_lay, one_if, one_c, one_by8, one_row, one_sq, one_grp] <;> omega)) only [go_sem, ↓reduceIte, Nat.reduceEqDiff, Int.reduceAdd, Int.reduceSub, v1, v3, v4, v37, e38]
                        refine callB_gives (fn_times G _ p 35 hp j k (by omega) (by omega)) ?_
                        simp (disch := first | omega | assumption | (simp only [tab_len, List.length_cons, List.length_append, List.length_set, List.length_nil, List.length_replicate, List.length_map, one_int, one_bool, one_slice, one_upd, one_lay, one_if, one_c, one_by8, one_row, one_sq, one_grp] <;> omega)) only [go_sem, ↓reduceIte, Nat.reduceEqDiff, Int.reduceAdd, Int.reduceSub, v1, v3, v4, v37, e38]
                        refine callB_gives (fn_times G _ p 35 hp i (G.T j k).toNat (by omega) (by omega)) ?_
                        simp (disch := first | omega | assumption | (simp only [tab_len, List.length_cons, List.length_append, List.length_set, List.length_nil, List.length_replicate, List.length_map, one_int, one_bool, one_slice, one_upd, one_lay, one_if, one_c, one_by8, one_row, one_sq, one_grp] <;> omega)) only [go_sem, ↓reduceIte, Nat.reduceEqDiff, Int.reduceAdd, Int.reduceSub, v1, v3, v4, v37, e38]
                        refine ifB_ndec (fun h8 => ?_) (fun h8 => ?_)
                        · simp (disch := first | omega | assumption | (simp only [tab_len, List.length_cons, List.length_append, List.length_set, List.length_nil, List.length_replicate, List.length_map, one_int, one_bool, one_slice, one_upd, one_lay, one_if, one_c, one_by8, one_row, one_sq, one_grp] <;> omega)) only [go_sem, ↓reduceIte, Nat.reduceEqDiff, Int.reduceAdd, Int.reduceSub]
                          refine up_plain ?_ (fun _ => rfl) rfl; rw [dec_false]; rintro ⟨m, hm, hg⟩; obtain rfl : m = n := (by omega); exact h8 (by rw [(hg.2.2 i (by omega)).2 j (by omega) k (by omega)])
                        · simp (disch := first | omega | assumption | (simp only [tab_len, List.length_cons, List.length_append, List.length_set, List.length_nil, List.length_replicate, List.length_map, one_int, one_bool, one_slice, one_upd, one_lay, one_if, one_c, one_by8, one_row, one_sq, one_grp] <;> omega)) only [go_sem, ↓reduceIte, Nat.reduceEqDiff, Int.reduceAdd, Int.reduceSub, e38]
                          refine hK3 _ _ _ (by omega) (Up.here ⟨rfl, rfl, ?_, all_succ hk3 (UInt8.toNat_inj.1 (by omega))⟩)
                          simp (disch := first | omega | assumption | (simp only [tab_len, List.length_cons, List.length_append, List.length_set, List.length_nil, List.length_replicate, List.length_map, one_int, one_bool, one_slice, one_upd, one_lay, one_if, one_c, one_by8, one_row, one_sq, one_grp] <;> omega)) only [go_sem, ↓reduceIte, Nat.reduceEqDiff, Int.reduceAdd, Int.reduceSub]
                      · simp (disch := first | omega | assumption | (simp only [tab_len, List.length_cons, List.length_append, List.length_set, List.length_nil, List.length_replicate, List.length_map, one_int, one_bool, one_slice, one_upd, one_lay, one_if, one_c, one_by8, one_row, one_sq, one_grp] <;> omega)) only [go_sem, ↓reduceIte, Nat.reduceEqDiff, Int.reduceAdd, Int.reduceSub, v1, v3, v4, v15, v34, v37, e38]
                        refine hK2 _ _ _ (by omega) (Up.here ⟨rfl, rfl, ?_, all_succ hk2 fun c hc => hk3 c (by omega)⟩)
                        simp (disch := first | omega | assumption | (simp only [tab_len, List.length_cons, List.length_append, List.length_set, List.length_nil, List.length_replicate, List.length_map, one_int, one_bool, one_slice, one_upd, one_lay, one_if, one_c, one_by8, one_row, one_sq, one_grp] <;> omega)) only [go_sem, ↓reduceIte, Nat.reduceEqDiff, Int.reduceAdd, Int.reduceSub]
                  · simp (disch := first | omega | assumption | (simp only [tab_len, List.length_cons, List.length_append, List.length_set, List.length_nil, List.length_replicate, List.length_map, one_int, one_bool, one_slice, one_upd, one_lay, one_if, one_c, one_by8, one_row, one_sq, one_grp] <;> omega)) only [go_sem, ↓reduceIte, Nat.reduceEqDiff, Int.reduceAdd, Int.reduceSub, u1, u3, u15, u33, e34]
                    refine hK _ _ _ (by omega) (Up.here ⟨rfl, rfl, ?_, all_succ hk ⟨⟨by omega, by omega, h5⟩, fun b hb => hk2 b (by omega)⟩⟩)
                    simp (disch := first | omega | assumption | (simp only [tab_len, List.length_cons, List.length_append, List.length_set, List.length_nil, List.length_replicate, List.length_map, one_int, one_bool, one_slice, one_upd, one_lay, one_if, one_c, one_by8, one_row, one_sq, one_grp] <;> omega)) only [go_sem, ↓reduceIte, Nat.reduceEqDiff, Int.reduceAdd, Int.reduceSub]
              · have h5' := firstOr_neg.2 h5
                simp (disch := first | omega | assumption | (simp only [tab_len, List.length_cons, List.length_append, List.length_set, List.length_nil, List.length_replicate, List.length_map, one_int, one_bool, one_slice, one_upd, one_lay, one_if, one_c, one_by8, one_row, one_sq, one_grp] <;> omega)) only [go_sem, ↓reduceIte, Nat.reduceEqDiff, Int.reduceAdd, Int.reduceSub, h3, h4, h5', e1, e14, e15]
                refine up_plain ?_ (fun _ => rfl) rfl; rw [dec_false]; rintro ⟨m, hm, hg⟩; obtain rfl : m = n := (by omega); exact h5 (hg.2.2 i (by omega)).1.2.2
            · simp (disch := first | omega | assumption | (simp only [tab_len, List.length_cons, List.length_append, List.length_set, List.length_nil, List.length_replicate, List.length_map, one_int, one_bool, one_slice, one_upd, one_lay, one_if, one_c, one_by8, one_row, one_sq, one_grp] <;> omega)) only [go_sem, ↓reduceIte, Nat.reduceEqDiff, Int.reduceAdd, Int.reduceSub, h3, h4, e1, e14, e15]
              refine up_plain ?_ (fun _ => rfl) rfl; rw [dec_false]; rintro ⟨m, hm, hg⟩; obtain rfl : m = n := (by omega); exact h4 (by exact_mod_cast (hg.2.2 i (by omega)).1.2.1)
          · simp (disch := first | omega | assumption | (simp only [tab_len, List.length_cons, List.length_append, List.length_set, List.length_nil, List.length_replicate, List.length_map, one_int, one_bool, one_slice, one_upd, one_lay, one_if, one_c, one_by8, one_row, one_sq, one_grp] <;> omega)) only [go_sem, ↓reduceIte, Nat.reduceEqDiff, Int.reduceAdd, Int.reduceSub, h3, e1, e14, e15]
            refine up_plain ?_ (fun _ => rfl) rfl; rw [dec_false]; rintro ⟨m, hm, hg⟩; obtain rfl : m = n := (by omega); exact h3 (by exact_mod_cast (hg.2.2 i (by omega)).1.1)
        · simp (disch := first | omega | assumption | (simp only [tab_len, List.length_cons, List.length_append, List.length_set, List.length_nil, List.length_replicate, List.length_map, one_int, one_bool, one_slice, one_upd, one_lay, one_if, one_c, one_by8, one_row, one_sq, one_grp] <;> omega)) only [go_sem, ↓reduceIte, Nat.reduceEqDiff, Int.reduceAdd, Int.reduceSub, e1, e14, e15]
          refine up_plain ?_ (fun _ => rfl) rfl
          rw [dec_true ⟨n, hn, by omega, h2, fun i hi => hk i (by omega)⟩]
    · rw [dec_false h2]
      simp (disch := first | omega | assumption | (simp only [tab_len, List.length_cons, List.length_append, List.length_set, List.length_nil, List.length_replicate, List.length_map, one_int, one_bool, one_slice, one_upd, one_lay, one_if, one_c, one_by8, one_row, one_sq, one_grp] <;> omega)) only [go_sem, ↓reduceIte, Nat.reduceEqDiff, Int.reduceAdd, Int.reduceSub, h1]
      refine up_plain ?_ (fun _ => rfl) rfl
      rw [dec_false]
      rintro ⟨m, hm, hg⟩
      have : m = n := by omega
      subst this
      exact h2 hg.2.1
  · simp (disch := first | omega | assumption | (simp only [tab_len, List.length_cons, List.length_append, List.length_set, List.length_nil, List.length_replicate, List.length_map, one_int, one_bool, one_slice, one_upd, one_lay, one_if, one_c, one_by8, one_row, one_sq, one_grp] <;> omega)) only [go_sem, ↓reduceIte, Nat.reduceEqDiff, Int.reduceAdd, Int.reduceSub, h1]
    refine up_plain ?_ (fun _ => rfl) rfl
    rw [dec_false]
    rintro ⟨m, hm, hg, _⟩
    omega
end Go.Proofs.Ytbenllhoofoahaa

