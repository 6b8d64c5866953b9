/- The classes of a group (reference). -/
import Derived.Test.YtbenllhoofoahaaFnL
namespace Go.Proofs.Ytbenllhoofoahaa
set_option linter.unusedSimpArgs false
set_option linter.unusedVariables false
set_option maxRecDepth 4000
open Go Go.Vc
def boolF (f : Nat → Bool) (k : Nat) : Value := .bool (f k)
theorem one_boolF (n) (f : Nat → Bool) : One n (boolF f) := fun _ => rfl
theorem bool_upd (f : Nat → Bool) (i : Nat) (x : Bool) : upd (boolF f) i (.bool x) = boolF (upd f i x) := by
  funext k; by_cases h : k = i
  · subst h; simp [upd_same, boolF]
  · simp [upd_ne h, boolF]
theorem getD_lt {l l' : List Nat} {k : Nat} (h : k < l.length) : (l ++ l').getD k 0 = l.getD k 0 := by
  rw [List.getD_eq_getElem?_getD, List.getD_eq_getElem?_getD, List.getElem?_append_left h]
theorem le_drop {M : Mem} {b : Nat} : Le (upd M b none) M := fun k x hk => by
  by_cases hkb : k = b
  · subst hkb; rw [upd_same] at hk; cases hk
  · rw [upd_ne hkb] at hk; exact hk
theorem ne_ty {M : Mem} {a b : Nat} {t1 t2 : TypeId} {c1 c2 : List Value} {k1 k2 : Nat} (h1 : M a = some ⟨t1, c1, k1⟩) (h2 : M b = some ⟨t2, c2, k2⟩) (h : t1 ≠ t2) : a ≠ b := fun e => by
  rw [e, h2] at h1; injection h1 with h1; injection h1 with h1; exact h h1.symm
theorem sp_classes (κ : Mem) (G : Grp) (n : Nat) (hn : G.n = n) (hg : IsG G n) :
    CallsX Try.prog 30 #[.agg (tab 37 (grpF G)).toArray] none' κ (fun v M ψ => M = none' ∧ Lists ψ v (clsUp G n n)) := by
  have h6 := hg.1
  have hml := maxLen_big
  refine run_of (rs := [.tmp 2]) (args := [.agg (tab 37 (grpF G)).toArray]) mixed Try.func30 rfl ok30 (by kernel_rfl) (by show 1 ≤ _; decide) rfl ?_
  simp (disch := first | omega | assumption | (simp only [tab_len, List.length_cons, List.length_append, List.length_set, List.length_nil, List.length_replicate, List.length_map, one_int, one_bool, one_slice, one_upd, one_lay, one_if, one_c, one_by8, one_row, one_sq, one_grp, nums_len, one_alg, one_num, one_boolF] <;> omega)) only [go_sem, ↓reduceIte, Nat.reduceEqDiff, Int.reduceAdd, Int.reduceSub]
  refine anew_intro fun p p1 p2 p3 => ?_
  have p0 := p1
  try simp only [upd_none] at p0
  simp (disch := first | omega | assumption | (simp only [tab_len, List.length_cons, List.length_append, List.length_set, List.length_nil, List.length_replicate, List.length_map, one_int, one_bool, one_slice, one_upd, one_lay, one_if, one_c, one_by8, one_row, one_sq, one_grp, nums_len, one_alg, one_num, one_boolF] <;> omega)) only [go_sem, ↓reduceIte, Nat.reduceEqDiff, Int.reduceAdd, Int.reduceSub]
  refine anew_intro fun q q1 q2 q3 => ?_
  have q0 := q1
  try simp only [upd_none] at q0
  simp (disch := first | omega | assumption | (simp only [tab_len, List.length_cons, List.length_append, List.length_set, List.length_nil, List.length_replicate, List.length_map, one_int, one_bool, one_slice, one_upd, one_lay, one_if, one_c, one_by8, one_row, one_sq, one_grp, nums_len, one_alg, one_num, one_boolF] <;> omega)) only [go_sem, ↓reduceIte, Nat.reduceEqDiff, Int.reduceAdd, Int.reduceSub]
  refine anew_intro fun m m1 m2 m3 => ?_
  have m0 := m1
  try simp only [upd_none] at m0
  simp (disch := first | omega | assumption | (simp only [tab_len, List.length_cons, List.length_append, List.length_set, List.length_nil, List.length_replicate, List.length_map, one_int, one_bool, one_slice, one_upd, one_lay, one_if, one_c, one_by8, one_row, one_sq, one_grp, nums_len, one_alg, one_num, one_boolF] <;> omega)) only [go_sem, ↓reduceIte, Nat.reduceEqDiff, Int.reduceAdd, Int.reduceSub]
  rw [s_putTabA _ _ _ _ _ _ _ (one_c rfl)]
  simp (disch := first | omega | assumption | (simp only [tab_len, List.length_cons, List.length_append, List.length_set, List.length_nil, List.length_replicate, List.length_map, one_int, one_bool, one_slice, one_upd, one_lay, one_if, one_c, one_by8, one_row, one_sq, one_grp, nums_len, one_alg, one_num, one_boolF] <;> omega)) only [go_sem, ↓reduceIte, Nat.reduceEqDiff, Int.reduceAdd, Int.reduceSub]
  generalize hM : (upd _ _ _ : Mem) = M0
  have hp : Has M0 p 35 (tab 37 (grpF G)) := by rw [← hM]; (simp (disch := first | omega | assumption | (simp only [tab_len, List.length_cons, List.length_append, List.length_set, List.length_nil, List.length_replicate, List.length_map, one_int, one_bool, one_slice, one_upd, one_lay, one_if, one_c, one_by8, one_row, one_sq, one_grp, nums_len, one_alg, one_num, one_boolF] <;> omega)) only [go_sem, ↓reduceIte, Nat.reduceEqDiff, Int.reduceAdd, Int.reduceSub, has_ne, has_same, true_and])
  have hm : Has M0 m 73 (tab 6 (boolF fun _ => false)) := by rw [← hM]; (simp (disch := first | omega | assumption | (simp only [tab_len, List.length_cons, List.length_append, List.length_set, List.length_nil, List.length_replicate, List.length_map, one_int, one_bool, one_slice, one_upd, one_lay, one_if, one_c, one_by8, one_row, one_sq, one_grp, nums_len, one_alg, one_num, one_boolF] <;> omega)) only [go_sem, ↓reduceIte, Nat.reduceEqDiff, Int.reduceAdd, Int.reduceSub, has_ne, has_same, true_and]); try rfl
  have hq : M0 q = some ⟨41, [], 0⟩ := by rw [← hM]; (simp (disch := first | omega | assumption | (simp only [tab_len, List.length_cons, List.length_append, List.length_set, List.length_nil, List.length_replicate, List.length_map, one_int, one_bool, one_slice, one_upd, one_lay, one_if, one_c, one_by8, one_row, one_sq, one_grp, nums_len, one_alg, one_num, one_boolF] <;> omega)) only [go_sem, ↓reduceIte, Nat.reduceEqDiff, Int.reduceAdd, Int.reduceSub, List.length_nil])
  clear hM
  obtain ⟨tm, hm⟩ := hm
  refine vc_up n 0 (fun i env M ψ => env 5 = .int .i64 i ∧ Has M p 35 (tab 37 (grpF G)) ∧ (∃ fm tm, M m = some ⟨73, tab 6 (boolF fm), tm⟩ ∧ ∀ j < n, fm j = dec (∃ i' < i, isRep G n i' = true ∧ j ∈ cl G n i')) ∧
    ∃ q c cells, env 4 = .slice (some ⟨q, 0, none⟩) (clsUp G n i).length c ∧ M q = some ⟨41, cells, c⟩ ∧ (clsUp G n i).length ≤ c ∧ c ≤ maxLen ∧ Inner ψ (clsUp G n i) cells) (by omega) ?_ ?_
  · refine ⟨?_, hp, ⟨fun _ => false, tm, hm, fun j hj => (dec_false (by rintro ⟨a, ha, _⟩; omega)).symm⟩, q, 0, [], ?_, hq, by simp [clsUp], by omega, rfl, fun k l hk => by simp [clsUp] at hk⟩
    · simp (disch := first | omega | assumption | (simp only [tab_len, List.length_cons, List.length_append, List.length_set, List.length_nil, List.length_replicate, List.length_map, one_int, one_bool, one_slice, one_upd, one_lay, one_if, one_c, one_by8, one_row, one_sq, one_grp, nums_len, one_alg, one_num, one_boolF] <;> omega)) only [go_sem, ↓reduceIte, Nat.reduceEqDiff, Int.reduceAdd, Int.reduceSub]
    · simp (disch := first | omega | assumption | (simp only [tab_len, List.length_cons, List.length_append, List.length_set, List.length_nil, List.length_replicate, List.length_map, one_int, one_bool, one_slice, one_upd, one_lay, one_if, one_c, one_by8, one_row, one_sq, one_grp, nums_len, one_alg, one_num, one_boolF] <;> omega)) only [go_sem, ↓reduceIte, Nat.reduceEqDiff, Int.reduceAdd, Int.reduceSub]
      rfl
  · rintro i env M ψ hi hf - ap ⟨e5, ⟨tp, hp⟩, ⟨fm, tm, hm, hfm⟩, q, c, cells, e4, hq, hqc, hcm, hin⟩ K hK
    have e1 := hf 1 (by kernel_rfl)
    have e3 := hf 3 (by kernel_rfl)
    simp (disch := first | omega | assumption | (simp only [tab_len, List.length_cons, List.length_append, List.length_set, List.length_nil, List.length_replicate, List.length_map, one_int, one_bool, one_slice, one_upd, one_lay, one_if, one_c, one_by8, one_row, one_sq, one_grp, nums_len, one_alg, one_num, one_boolF] <;> omega)) only [go_sem, ↓reduceIte, Nat.reduceEqDiff, Int.reduceAdd, Int.reduceSub] at e1
    simp (disch := first | omega | assumption | (simp only [tab_len, List.length_cons, List.length_append, List.length_set, List.length_nil, List.length_replicate, List.length_map, one_int, one_bool, one_slice, one_upd, one_lay, one_if, one_c, one_by8, one_row, one_sq, one_grp, nums_len, one_alg, one_num, one_boolF] <;> omega)) only [go_sem, ↓reduceIte, Nat.reduceEqDiff, Int.reduceAdd, Int.reduceSub] at e3
    simp (disch := first | omega | assumption | (simp only [tab_len, List.length_cons, List.length_append, List.length_set, List.length_nil, List.length_replicate, List.length_map, one_int, one_bool, one_slice, one_upd, one_lay, one_if, one_c, one_by8, one_row, one_sq, one_grp, nums_len, one_alg, one_num, one_boolF] <;> omega)) only [go_sem, ↓reduceIte, Nat.reduceEqDiff, Int.reduceAdd, Int.reduceSub, e1, e5, hp, grpF_0, hn]
    refine ifB_dec (fun h => ?_) (fun h => ?_)
    · simp (disch := first | omega | assumption | (simp only [tab_len, List.length_cons, List.length_append, List.length_set, List.length_nil, List.length_replicate, List.length_map, one_int, one_bool, one_slice, one_upd, one_lay, one_if, one_c, one_by8, one_row, one_sq, one_grp, nums_len, one_alg, one_num, one_boolF] <;> omega)) only [go_sem, ↓reduceIte, Nat.reduceEqDiff, Int.reduceAdd, Int.reduceSub, e1, e3, e5, hm, boolF]
      have hmi := hfm i (by omega)
      have hlen := clsUp_len G n i
      cases hfi : fm i
      · rw [hfi] at hmi
        have hrep : isRep G n i = true := by
          cases hr : isRep G n i
          · have := (met_iff hg (show i < n by omega)).2 (by rw [hr]; simp)
            rw [dec_true this] at hmi; cases hmi
          · rfl
        simp (disch := first | omega | assumption | (simp only [tab_len, List.length_cons, List.length_append, List.length_set, List.length_nil, List.length_replicate, List.length_map, one_int, one_bool, one_slice, one_upd, one_lay, one_if, one_c, one_by8, one_row, one_sq, one_grp, nums_len, one_alg, one_num, one_boolF] <;> omega)) only [go_sem, ↓reduceIte, Nat.reduceEqDiff, Int.reduceAdd, Int.reduceSub]
        refine anew_intro fun r r1 r2 r3 => ?_
        have r0 := r1
        try simp only [upd_none] at r0
        simp (disch := first | omega | assumption | (simp only [tab_len, List.length_cons, List.length_append, List.length_set, List.length_nil, List.length_replicate, List.length_map, one_int, one_bool, one_slice, one_upd, one_lay, one_if, one_c, one_by8, one_row, one_sq, one_grp, nums_len, one_alg, one_num, one_boolF] <;> omega)) only [go_sem, ↓reduceIte, Nat.reduceEqDiff, Int.reduceAdd, Int.reduceSub]
        rw [s_putTabA _ _ _ _ _ _ _ (one_c rfl)]
        simp (disch := first | omega | assumption | (simp only [tab_len, List.length_cons, List.length_append, List.length_set, List.length_nil, List.length_replicate, List.length_map, one_int, one_bool, one_slice, one_upd, one_lay, one_if, one_c, one_by8, one_row, one_sq, one_grp, nums_len, one_alg, one_num, one_boolF] <;> omega)) only [go_sem, ↓reduceIte, Nat.reduceEqDiff, Int.reduceAdd, Int.reduceSub]
        have n1 := fresh_ne hp r1
        have n2 := fresh_ne hm r1
        have n3 := fresh_ne hq r1
        generalize hM1 : (upd _ _ _ : Mem) = M1
        replace hp : M1 p = some ⟨35, tab 37 (grpF G), tp⟩ := by rw [← hM1]; (simp (disch := first | omega | assumption | (simp only [tab_len, List.length_cons, List.length_append, List.length_set, List.length_nil, List.length_replicate, List.length_map, one_int, one_bool, one_slice, one_upd, one_lay, one_if, one_c, one_by8, one_row, one_sq, one_grp, nums_len, one_alg, one_num, one_boolF] <;> omega)) only [go_sem, ↓reduceIte, Nat.reduceEqDiff, Int.reduceAdd, Int.reduceSub, hp])
        replace hm : M1 m = some ⟨73, tab 6 (boolF fm), tm⟩ := by rw [← hM1]; (simp (disch := first | omega | assumption | (simp only [tab_len, List.length_cons, List.length_append, List.length_set, List.length_nil, List.length_replicate, List.length_map, one_int, one_bool, one_slice, one_upd, one_lay, one_if, one_c, one_by8, one_row, one_sq, one_grp, nums_len, one_alg, one_num, one_boolF] <;> omega)) only [go_sem, ↓reduceIte, Nat.reduceEqDiff, Int.reduceAdd, Int.reduceSub, hm])
        replace hq : M1 q = some ⟨41, cells, c⟩ := by rw [← hM1]; (simp (disch := first | omega | assumption | (simp only [tab_len, List.length_cons, List.length_append, List.length_set, List.length_nil, List.length_replicate, List.length_map, one_int, one_bool, one_slice, one_upd, one_lay, one_if, one_c, one_by8, one_row, one_sq, one_grp, nums_len, one_alg, one_num, one_boolF] <;> omega)) only [go_sem, ↓reduceIte, Nat.reduceEqDiff, Int.reduceAdd, Int.reduceSub, hq])
        have hr : Has M1 r 73 (tab 6 (boolF fun _ => false)) := by rw [← hM1, has_same]; exact ⟨rfl, rfl⟩
        clear hM1
        refine vc_up n 0 (fun x env M ψ' => ψ = ψ' ∧ env 7 = .int .i64 x ∧ M p = some ⟨35, tab 37 (grpF G), tp⟩ ∧ M m = some ⟨73, tab 6 (boolF fm), tm⟩ ∧ M q = some ⟨41, cells, c⟩ ∧
          ∃ fo, Has M r 73 (tab 6 (boolF fo)) ∧ ∀ j < n, fo j = dec (∃ x' < x, conj G n x' i = j)) (by omega) ?_ ?_
        · refine ⟨rfl, ?_, hp, hm, hq, _, hr, fun j hj => (dec_false (by rintro ⟨a, ha, _⟩; omega)).symm⟩
          simp (disch := first | omega | assumption | (simp only [tab_len, List.length_cons, List.length_append, List.length_set, List.length_nil, List.length_replicate, List.length_map, one_int, one_bool, one_slice, one_upd, one_lay, one_if, one_c, one_by8, one_row, one_sq, one_grp, nums_len, one_alg, one_num, one_boolF] <;> omega)) only [go_sem, ↓reduceIte, Nat.reduceEqDiff, Int.reduceAdd, Int.reduceSub]
        · rintro x env2 M ψ' hx hf2 - ap2 ⟨rfl, e7, hp, hm, hq, fo, ⟨tr, hr⟩, hfo⟩ K2 hK2
          have u1 := hf2 1 (by kernel_rfl)
          have u3 := hf2 3 (by kernel_rfl)
          have u4 := hf2 4 (by kernel_rfl)
          have u5 := hf2 5 (by kernel_rfl)
          have u6 := hf2 6 (by kernel_rfl)
          simp (disch := first | omega | assumption | (simp only [tab_len, List.length_cons, List.length_append, List.length_set, List.length_nil, List.length_replicate, List.length_map, one_int, one_bool, one_slice, one_upd, one_lay, one_if, one_c, one_by8, one_row, one_sq, one_grp, nums_len, one_alg, one_num, one_boolF] <;> omega)) only [go_sem, ↓reduceIte, Nat.reduceEqDiff, Int.reduceAdd, Int.reduceSub, e1, e3, e4, e5] at u1
          simp (disch := first | omega | assumption | (simp only [tab_len, List.length_cons, List.length_append, List.length_set, List.length_nil, List.length_replicate, List.length_map, one_int, one_bool, one_slice, one_upd, one_lay, one_if, one_c, one_by8, one_row, one_sq, one_grp, nums_len, one_alg, one_num, one_boolF] <;> omega)) only [go_sem, ↓reduceIte, Nat.reduceEqDiff, Int.reduceAdd, Int.reduceSub, e1, e3, e4, e5] at u3
          simp (disch := first | omega | assumption | (simp only [tab_len, List.length_cons, List.length_append, List.length_set, List.length_nil, List.length_replicate, List.length_map, one_int, one_bool, one_slice, one_upd, one_lay, one_if, one_c, one_by8, one_row, one_sq, one_grp, nums_len, one_alg, one_num, one_boolF] <;> omega)) only [go_sem, ↓reduceIte, Nat.reduceEqDiff, Int.reduceAdd, Int.reduceSub, e1, e3, e4, e5] at u4
          simp (disch := first | omega | assumption | (simp only [tab_len, List.length_cons, List.length_append, List.length_set, List.length_nil, List.length_replicate, List.length_map, one_int, one_bool, one_slice, one_upd, one_lay, one_if, one_c, one_by8, one_row, one_sq, one_grp, nums_len, one_alg, one_num, one_boolF] <;> omega)) only [go_sem, ↓reduceIte, Nat.reduceEqDiff, Int.reduceAdd, Int.reduceSub, e1, e3, e4, e5] at u5
          simp (disch := first | omega | assumption | (simp only [tab_len, List.length_cons, List.length_append, List.length_set, List.length_nil, List.length_replicate, List.length_map, one_int, one_bool, one_slice, one_upd, one_lay, one_if, one_c, one_by8, one_row, one_sq, one_grp, nums_len, one_alg, one_num, one_boolF] <;> omega)) only [go_sem, ↓reduceIte, Nat.reduceEqDiff, Int.reduceAdd, Int.reduceSub, e1, e3, e4, e5] at u6
          simp (disch := first | omega | assumption | (simp only [tab_len, List.length_cons, List.length_append, List.length_set, List.length_nil, List.length_replicate, List.length_map, one_int, one_bool, one_slice, one_upd, one_lay, one_if, one_c, one_by8, one_row, one_sq, one_grp, nums_len, one_alg, one_num, one_boolF] <;> omega)) only [go_sem, ↓reduceIte, Nat.reduceEqDiff, Int.reduceAdd, Int.reduceSub, u1, e7, hp, grpF_0, hn]
          refine ifB_dec (fun h2 => ?_) (fun h2 => ?_)
          · obtain ⟨i1, i2, i3, i4, i5⟩ := inv_spec hg (show x < n by omega)
            have c1 := mul_lt hg (mul_lt hg (show x < n by omega) (show i < n by omega)) i1
            simp (disch := first | omega | assumption | (simp only [tab_len, List.length_cons, List.length_append, List.length_set, List.length_nil, List.length_replicate, List.length_map, one_int, one_bool, one_slice, one_upd, one_lay, one_if, one_c, one_by8, one_row, one_sq, one_grp, nums_len, one_alg, one_num, one_boolF] <;> omega)) only [go_sem, ↓reduceIte, Nat.reduceEqDiff, Int.reduceAdd, Int.reduceSub, u1, u5, u6, e7]
            refine run_drawn [(0, []), (1, []), (2, []), (3, []), (4, []), (5, []), (6, []), (7, []), (8, []), (9, [])] (by kernel_rfl) ?_
            simp (disch := first | omega | assumption | (simp only [tab_len, List.length_cons, List.length_append, List.length_set, List.length_nil, List.length_replicate, List.length_map, one_int, one_bool, one_slice, one_upd, one_lay, one_if, one_c, one_by8, one_row, one_sq, one_grp, nums_len, one_alg, one_num, one_boolF] <;> omega)) only [go_sem, ↓reduceIte, Nat.reduceEqDiff, Int.reduceAdd, Int.reduceSub, u1, u5, u6, e7, hp]
            refine callB0_gives (sp_inverse _ G n hn (by omega) x (by omega)) ?_
            rw [i4]
            simp (disch := first | omega | assumption | (simp only [tab_len, List.length_cons, List.length_append, List.length_set, List.length_nil, List.length_replicate, List.length_map, one_int, one_bool, one_slice, one_upd, one_lay, one_if, one_c, one_by8, one_row, one_sq, one_grp, nums_len, one_alg, one_num, one_boolF] <;> omega)) only [go_sem, ↓reduceIte, Nat.reduceEqDiff, Int.reduceAdd, Int.reduceSub, u1, u5, u6, e7, hp]
            refine anew_intro fun s s1 s2 s3 => ?_
            have s0 := s1
            try simp only [upd_none] at s0
            simp (disch := first | omega | assumption | (simp only [tab_len, List.length_cons, List.length_append, List.length_set, List.length_nil, List.length_replicate, List.length_map, one_int, one_bool, one_slice, one_upd, one_lay, one_if, one_c, one_by8, one_row, one_sq, one_grp, nums_len, one_alg, one_num, one_boolF] <;> omega)) only [go_sem, ↓reduceIte, Nat.reduceEqDiff, Int.reduceAdd, Int.reduceSub]
            refine callB0_gives (sp_times _ G n hg 3 s 3 2 (fun k => if k = 0 then x else if k = 1 then i else inv G n x) (by omega) (fun k hk => ?_) (has_own ?_)) ?_
            · show (if k = 0 then x else if k = 1 then i else inv G n x) < n
              split
              · omega
              · split <;> omega
            · rw [has_same]; exact ⟨rfl, rfl⟩
            · have hpr : prod G (fun k => if k = 0 then x else if k = 1 then i else inv G n x) 3 = conj G n x i := by
                show mul G (mul G (mul G 0 x) i) (inv G n x) = _
                rw [one_mul hg (by omega)]; rfl
              have c2 : conj G n x i < n := c1
              have s4 := fresh_ne hp s1
              have s5 := fresh_ne hm s1
              have s6 := fresh_ne hq s1
              have s7 := fresh_ne hr s1
              rw [hpr]
              simp (disch := first | omega | assumption | (simp only [tab_len, List.length_cons, List.length_append, List.length_set, List.length_nil, List.length_replicate, List.length_map, one_int, one_bool, one_slice, one_upd, one_lay, one_if, one_c, one_by8, one_row, one_sq, one_grp, nums_len, one_alg, one_num, one_boolF] <;> omega)) only [go_sem, ↓reduceIte, Nat.reduceEqDiff, Int.reduceAdd, Int.reduceSub, u6, e7, hr, bool_upd]
              refine hK2 _ _ _ (by omega) (Up.here ⟨rfl, ?_, ?_, ?_, ?_, upd fo (conj G n x i) true, ⟨tr, ?_⟩, fun j hj => ?_⟩)
              · simp (disch := first | omega | assumption | (simp only [tab_len, List.length_cons, List.length_append, List.length_set, List.length_nil, List.length_replicate, List.length_map, one_int, one_bool, one_slice, one_upd, one_lay, one_if, one_c, one_by8, one_row, one_sq, one_grp, nums_len, one_alg, one_num, one_boolF] <;> omega)) only [go_sem, ↓reduceIte, Nat.reduceEqDiff, Int.reduceAdd, Int.reduceSub]
              · simp (disch := first | omega | assumption | (simp only [tab_len, List.length_cons, List.length_append, List.length_set, List.length_nil, List.length_replicate, List.length_map, one_int, one_bool, one_slice, one_upd, one_lay, one_if, one_c, one_by8, one_row, one_sq, one_grp, nums_len, one_alg, one_num, one_boolF] <;> omega)) only [go_sem, ↓reduceIte, Nat.reduceEqDiff, Int.reduceAdd, Int.reduceSub, hp]
              · simp (disch := first | omega | assumption | (simp only [tab_len, List.length_cons, List.length_append, List.length_set, List.length_nil, List.length_replicate, List.length_map, one_int, one_bool, one_slice, one_upd, one_lay, one_if, one_c, one_by8, one_row, one_sq, one_grp, nums_len, one_alg, one_num, one_boolF] <;> omega)) only [go_sem, ↓reduceIte, Nat.reduceEqDiff, Int.reduceAdd, Int.reduceSub, hm]
              · simp (disch := first | omega | assumption | (simp only [tab_len, List.length_cons, List.length_append, List.length_set, List.length_nil, List.length_replicate, List.length_map, one_int, one_bool, one_slice, one_upd, one_lay, one_if, one_c, one_by8, one_row, one_sq, one_grp, nums_len, one_alg, one_num, one_boolF] <;> omega)) only [go_sem, ↓reduceIte, Nat.reduceEqDiff, Int.reduceAdd, Int.reduceSub, hq]
              · simp (disch := first | omega | assumption | (simp only [tab_len, List.length_cons, List.length_append, List.length_set, List.length_nil, List.length_replicate, List.length_map, one_int, one_bool, one_slice, one_upd, one_lay, one_if, one_c, one_by8, one_row, one_sq, one_grp, nums_len, one_alg, one_num, one_boolF] <;> omega)) only [go_sem, ↓reduceIte, Nat.reduceEqDiff, Int.reduceAdd, Int.reduceSub]
              · by_cases hjc : j = conj G n x i
                · subst hjc; rw [upd_same, dec_true ⟨x, by omega, rfl⟩]
                · rw [upd_ne hjc, hfo j hj]
                  refine dec_eq ⟨fun ⟨a, ha, h⟩ => ⟨a, by omega, h⟩, fun ⟨a, ha, h⟩ => ?_⟩
                  by_cases hax : a = x
                  · subst hax; exact (hjc h.symm).elim
                  · exact ⟨a, by omega, h⟩
          · have : x = n := by omega
            subst this
            simp (disch := first | omega | assumption | (simp only [tab_len, List.length_cons, List.length_append, List.length_set, List.length_nil, List.length_replicate, List.length_map, one_int, one_bool, one_slice, one_upd, one_lay, one_if, one_c, one_by8, one_row, one_sq, one_grp, nums_len, one_alg, one_num, one_boolF] <;> omega)) only [go_sem, ↓reduceIte, Nat.reduceEqDiff, Int.reduceAdd, Int.reduceSub, u1, u3, u5, u6]
            refine anew_intro fun lb lb1 lb2 lb3 => ?_
            have lb0 := lb1
            try simp only [upd_none] at lb0
            have l4 := fresh_ne hp lb1
            have l5 := fresh_ne hm lb1
            have l6 := fresh_ne hq lb1
            have l7 := fresh_ne hr lb1
            simp (disch := first | omega | assumption | (simp only [tab_len, List.length_cons, List.length_append, List.length_set, List.length_nil, List.length_replicate, List.length_map, one_int, one_bool, one_slice, one_upd, one_lay, one_if, one_c, one_by8, one_row, one_sq, one_grp, nums_len, one_alg, one_num, one_boolF] <;> omega)) only [go_sem, ↓reduceIte, Nat.reduceEqDiff, Int.reduceAdd, Int.reduceSub, u1, u3, u5, u6]
            refine vc_up x 0 (fun j env M ψ' => ψ = ψ' ∧ env 9 = .int .i64 j ∧ M p = some ⟨35, tab 37 (grpF G), tp⟩ ∧ (∃ fm, M m = some ⟨73, tab 6 (boolF fm), tm⟩ ∧ ∀ k < x, fm k = dec ((∃ i' < i, isRep G x i' = true ∧ k ∈ cl G x i') ∨ (k < j ∧ k ∈ cl G x i))) ∧ M q = some ⟨41, cells, c⟩ ∧ M r = some ⟨73, tab 6 (boolF fo), tr⟩ ∧
              ∃ lb lc, env 8 = .slice (some ⟨lb, 0, none⟩) (clUp G x i j).length lc ∧ M lb = some ⟨2, tab (clUp G x i j).length (numF fun k => ((clUp G x i j).getD k 0 : Nat)), lc⟩ ∧ (clUp G x i j).length ≤ lc ∧ lc ≤ maxLen) (by omega) ?_ ?_
            · refine ⟨rfl, ?_, ?_, ⟨fm, ?_, fun k hk => ?_⟩, ?_, ?_, lb, 0, ?_, ?_, by simp [clUp], by omega⟩
              · simp (disch := first | omega | assumption | (simp only [tab_len, List.length_cons, List.length_append, List.length_set, List.length_nil, List.length_replicate, List.length_map, one_int, one_bool, one_slice, one_upd, one_lay, one_if, one_c, one_by8, one_row, one_sq, one_grp, nums_len, one_alg, one_num, one_boolF] <;> omega)) only [go_sem, ↓reduceIte, Nat.reduceEqDiff, Int.reduceAdd, Int.reduceSub]
              · simp (disch := first | omega | assumption | (simp only [tab_len, List.length_cons, List.length_append, List.length_set, List.length_nil, List.length_replicate, List.length_map, one_int, one_bool, one_slice, one_upd, one_lay, one_if, one_c, one_by8, one_row, one_sq, one_grp, nums_len, one_alg, one_num, one_boolF] <;> omega)) only [go_sem, ↓reduceIte, Nat.reduceEqDiff, Int.reduceAdd, Int.reduceSub, hp]
              · simp (disch := first | omega | assumption | (simp only [tab_len, List.length_cons, List.length_append, List.length_set, List.length_nil, List.length_replicate, List.length_map, one_int, one_bool, one_slice, one_upd, one_lay, one_if, one_c, one_by8, one_row, one_sq, one_grp, nums_len, one_alg, one_num, one_boolF] <;> omega)) only [go_sem, ↓reduceIte, Nat.reduceEqDiff, Int.reduceAdd, Int.reduceSub, hm]
              · rw [hfm k hk]; exact dec_eq ⟨.inl, fun h => h.elim id fun h => by omega⟩
              · simp (disch := first | omega | assumption | (simp only [tab_len, List.length_cons, List.length_append, List.length_set, List.length_nil, List.length_replicate, List.length_map, one_int, one_bool, one_slice, one_upd, one_lay, one_if, one_c, one_by8, one_row, one_sq, one_grp, nums_len, one_alg, one_num, one_boolF] <;> omega)) only [go_sem, ↓reduceIte, Nat.reduceEqDiff, Int.reduceAdd, Int.reduceSub, hq]
              · simp (disch := first | omega | assumption | (simp only [tab_len, List.length_cons, List.length_append, List.length_set, List.length_nil, List.length_replicate, List.length_map, one_int, one_bool, one_slice, one_upd, one_lay, one_if, one_c, one_by8, one_row, one_sq, one_grp, nums_len, one_alg, one_num, one_boolF] <;> omega)) only [go_sem, ↓reduceIte, Nat.reduceEqDiff, Int.reduceAdd, Int.reduceSub, hr]
              · simp (disch := first | omega | assumption | (simp only [tab_len, List.length_cons, List.length_append, List.length_set, List.length_nil, List.length_replicate, List.length_map, one_int, one_bool, one_slice, one_upd, one_lay, one_if, one_c, one_by8, one_row, one_sq, one_grp, nums_len, one_alg, one_num, one_boolF] <;> omega)) only [go_sem, ↓reduceIte, Nat.reduceEqDiff, Int.reduceAdd, Int.reduceSub]
                rfl
              · rw [upd_same]; rfl
            · rintro j env3 M ψ' hj hf3 - ap3 ⟨rfl, e9, hp, ⟨fm, hm, hfm⟩, hq, hr, lb, lc, e8, hlb, hlc, hlm⟩ K3 hK3
              have v1 := hf3 1 (by kernel_rfl)
              have v3 := hf3 3 (by kernel_rfl)
              have v4 := hf3 4 (by kernel_rfl)
              have v5 := hf3 5 (by kernel_rfl)
              have v6 := hf3 6 (by kernel_rfl)
              simp (disch := first | omega | assumption | (simp only [tab_len, List.length_cons, List.length_append, List.length_set, List.length_nil, List.length_replicate, List.length_map, one_int, one_bool, one_slice, one_upd, one_lay, one_if, one_c, one_by8, one_row, one_sq, one_grp, nums_len, one_alg, one_num, one_boolF] <;> omega)) only [go_sem, ↓reduceIte, Nat.reduceEqDiff, Int.reduceAdd, Int.reduceSub, u1, u3, u4, u5, u6] at v1
              simp (disch := first | omega | assumption | (simp only [tab_len, List.length_cons, List.length_append, List.length_set, List.length_nil, List.length_replicate, List.length_map, one_int, one_bool, one_slice, one_upd, one_lay, one_if, one_c, one_by8, one_row, one_sq, one_grp, nums_len, one_alg, one_num, one_boolF] <;> omega)) only [go_sem, ↓reduceIte, Nat.reduceEqDiff, Int.reduceAdd, Int.reduceSub, u1, u3, u4, u5, u6] at v3
              simp (disch := first | omega | assumption | (simp only [tab_len, List.length_cons, List.length_append, List.length_set, List.length_nil, List.length_replicate, List.length_map, one_int, one_bool, one_slice, one_upd, one_lay, one_if, one_c, one_by8, one_row, one_sq, one_grp, nums_len, one_alg, one_num, one_boolF] <;> omega)) only [go_sem, ↓reduceIte, Nat.reduceEqDiff, Int.reduceAdd, Int.reduceSub, u1, u3, u4, u5, u6] at v4
              simp (disch := first | omega | assumption | (simp only [tab_len, List.length_cons, List.length_append, List.length_set, List.length_nil, List.length_replicate, List.length_map, one_int, one_bool, one_slice, one_upd, one_lay, one_if, one_c, one_by8, one_row, one_sq, one_grp, nums_len, one_alg, one_num, one_boolF] <;> omega)) only [go_sem, ↓reduceIte, Nat.reduceEqDiff, Int.reduceAdd, Int.reduceSub, u1, u3, u4, u5, u6] at v5
              simp (disch := first | omega | assumption | (simp only [tab_len, List.length_cons, List.length_append, List.length_set, List.length_nil, List.length_replicate, List.length_map, one_int, one_bool, one_slice, one_upd, one_lay, one_if, one_c, one_by8, one_row, one_sq, one_grp, nums_len, one_alg, one_num, one_boolF] <;> omega)) only [go_sem, ↓reduceIte, Nat.reduceEqDiff, Int.reduceAdd, Int.reduceSub, u1, u3, u4, u5, u6] at v6
              simp (disch := first | omega | assumption | (simp only [tab_len, List.length_cons, List.length_append, List.length_set, List.length_nil, List.length_replicate, List.length_map, one_int, one_bool, one_slice, one_upd, one_lay, one_if, one_c, one_by8, one_row, one_sq, one_grp, nums_len, one_alg, one_num, one_boolF] <;> omega)) only [go_sem, ↓reduceIte, Nat.reduceEqDiff, Int.reduceAdd, Int.reduceSub, v1, e9, hp, grpF_0, hn]
              refine ifB_dec (fun h3 => ?_) (fun h3 => ?_)
              · simp (disch := first | omega | assumption | (simp only [tab_len, List.length_cons, List.length_append, List.length_set, List.length_nil, List.length_replicate, List.length_map, one_int, one_bool, one_slice, one_upd, one_lay, one_if, one_c, one_by8, one_row, one_sq, one_grp, nums_len, one_alg, one_num, one_boolF] <;> omega)) only [go_sem, ↓reduceIte, Nat.reduceEqDiff, Int.reduceAdd, Int.reduceSub, v6, e9, hr, boolF]
                have hfoj := hfo j (by omega)
                have hany : ((List.range x).any fun a => conj G x a i == j) = fo j := by
                  rw [hfoj, Bool.eq_iff_iff, dec_iff]; simp [List.any_eq_true]
                have hin2 : j ∈ cl G x i ↔ fo j = true := by
                  rw [← hany]; simp [mem_cl, List.any_eq_true]; intro _ _ _; omega
                have hlen2 := clUp_len G x i j
                refine ifB_or (fun h4 => ?_) (fun h4 => ?_)
                · simp (disch := first | omega | assumption | (simp only [tab_len, List.length_cons, List.length_append, List.length_set, List.length_nil, List.length_replicate, List.length_map, one_int, one_bool, one_slice, one_upd, one_lay, one_if, one_c, one_by8, one_row, one_sq, one_grp, nums_len, one_alg, one_num, one_boolF] <;> omega)) only [go_sem, ↓reduceIte, Nat.reduceEqDiff, Int.reduceAdd, Int.reduceSub, v3, e8, e9, hm, bool_upd]
                  have w1 := ne_ty hlb hm (by decide)
                  have w2 := ne_ty hlb hp (by decide)
                  have w3 := ne_ty hlb hq (by decide)
                  have w4 := ne_ty hlb hr (by decide)
                  have w5 := ne_ty hp hm (by decide)
                  have w6 := ne_ty hq hm (by decide)
                  refine anew_intro fun sb sb1 sb2 sb3 => ?_
                  have sb0 := sb1
                  try simp only [upd_none] at sb0
                  have sl : sb ≠ lb := fun e => by rw [e, upd_ne w1, hlb] at sb1; cases sb1
                  have sm : sb ≠ m := fun e => by rw [e, upd_same] at sb1; cases sb1
                  try simp (disch := first | omega | assumption | (simp only [tab_len, List.length_cons, List.length_append, List.length_set, List.length_nil, List.length_replicate, List.length_map, one_int, one_bool, one_slice, one_upd, one_lay, one_if, one_c, one_by8, one_row, one_sq, one_grp, nums_len, one_alg, one_num, one_boolF] <;> omega)) only [go_sem, ↓reduceIte, Nat.reduceEqDiff, Int.reduceAdd, Int.reduceSub]
                  refine append_at (e := 2) (ty := 2) (tot := 1) (l := tab (clUp G x i j).length (numF fun k => ((clUp G x i j).getD k 0 : Nat))) (l' := [.int .i64 j]) Try.underlying41 a41 c2 y41 (by rw [upd_ne (Ne.symm sl), upd_ne w1]; exact hlb) (tab_len ..) hlc hlm
                    (by simp only [all, over, upd_same, Option.some_or]; rfl) rfl rfl (by omega) (by omega) (by omega) fun g c' g1 g2 g3 k1 k2 => ?_
                  rw [num_app]
                  have sp : sb ≠ p := fun e => by rw [e, upd_ne w5, hp] at sb1; cases sb1
                  have sq : sb ≠ q := fun e => by rw [e, upd_ne w6, hq] at sb1; cases sb1
                  have sr : sb ≠ r := fun e => by rw [e, upd_ne n2, hr] at sb1; cases sb1
                  have gm : g ≠ m := fun e => by rw [e, upd_ne (Ne.symm w1), upd_ne (Ne.symm sm), upd_same] at g1; cases g1
                  have gp : g ≠ p := fun e => by rw [e, upd_ne (Ne.symm w2), upd_ne (Ne.symm sp), upd_ne w5, hp] at g1; cases g1
                  have gq : g ≠ q := fun e => by rw [e, upd_ne (Ne.symm w3), upd_ne (Ne.symm sq), upd_ne w6, hq] at g1; cases g1
                  have gr : g ≠ r := fun e => by rw [e, upd_ne (Ne.symm w4), upd_ne (Ne.symm sr), upd_ne n2, hr] at g1; cases g1
                  have hcl : clUp G x i (j + 1) = clUp G x i j ++ [j] := by rw [clUp_succ, hany, h4]; rfl
                  simp (disch := first | omega | assumption | (simp only [tab_len, List.length_cons, List.length_append, List.length_set, List.length_nil, List.length_replicate, List.length_map, one_int, one_bool, one_slice, one_upd, one_lay, one_if, one_c, one_by8, one_row, one_sq, one_grp, nums_len, one_alg, one_num, one_boolF] <;> omega)) only [go_sem, ↓reduceIte, Nat.reduceEqDiff, Int.reduceAdd, Int.reduceSub, e9]
                  refine hK3 _ _ _ (by omega) (Up.here ⟨rfl, ?_, ?_, ⟨upd fm j true, ?_, fun k hk => ?_⟩, ?_, ?_, g, c', ?_, ?_, ?_, k2⟩)
                  · simp (disch := first | omega | assumption | (simp only [tab_len, List.length_cons, List.length_append, List.length_set, List.length_nil, List.length_replicate, List.length_map, one_int, one_bool, one_slice, one_upd, one_lay, one_if, one_c, one_by8, one_row, one_sq, one_grp, nums_len, one_alg, one_num, one_boolF] <;> omega)) only [go_sem, ↓reduceIte, Nat.reduceEqDiff, Int.reduceAdd, Int.reduceSub]
                  · rw [upd_ne (Ne.symm gp), upd_ne (Ne.symm w2), upd_ne (Ne.symm sp), upd_ne w5]; exact hp
                  · rw [upd_ne (Ne.symm gm), upd_ne (Ne.symm w1), upd_ne (Ne.symm sm), upd_same]
                  · by_cases hkj : k = j
                    · subst hkj; rw [upd_same, dec_true (.inr ⟨by omega, hin2.2 h4⟩)]
                    · rw [upd_ne hkj, hfm k hk]
                      exact dec_eq ⟨fun h => h.elim .inl fun h => .inr ⟨by omega, h.2⟩, fun h => h.elim .inl fun h => .inr ⟨by omega, h.2⟩⟩
                  · rw [upd_ne (Ne.symm gq), upd_ne (Ne.symm w3), upd_ne (Ne.symm sq), upd_ne w6]; exact hq
                  · rw [upd_ne (Ne.symm gr), upd_ne (Ne.symm w4), upd_ne (Ne.symm sr), upd_ne n2]; exact hr
                  · rw [hcl]
                    simp (disch := first | omega | assumption | (simp only [tab_len, List.length_cons, List.length_append, List.length_set, List.length_nil, List.length_replicate, List.length_map, one_int, one_bool, one_slice, one_upd, one_lay, one_if, one_c, one_by8, one_row, one_sq, one_grp, nums_len, one_alg, one_num, one_boolF] <;> omega)) only [go_sem, ↓reduceIte, Nat.reduceEqDiff, Int.reduceAdd, Int.reduceSub, List.length_append, List.length_cons, List.length_nil]
                  · rw [upd_same, hcl, List.length_append]
                    congr 2
                    refine tab_eq fun k hk => ?_
                    unfold numF
                    by_cases hk2 : k = (clUp G x i j).length
                    · rw [hk2, upd_same]; simp [List.getD_eq_getElem?_getD]
                    · rw [upd_ne hk2]; exact congrArg (fun z : Nat => i64 (z : Int)) (getD_lt (by omega)).symm
                  · rw [hcl, List.length_append]; exact k1
                · have hcl : clUp G x i (j + 1) = clUp G x i j := by rw [clUp_succ, hany, h4]; simp
                  simp (disch := first | omega | assumption | (simp only [tab_len, List.length_cons, List.length_append, List.length_set, List.length_nil, List.length_replicate, List.length_map, one_int, one_bool, one_slice, one_upd, one_lay, one_if, one_c, one_by8, one_row, one_sq, one_grp, nums_len, one_alg, one_num, one_boolF] <;> omega)) only [go_sem, ↓reduceIte, Nat.reduceEqDiff, Int.reduceAdd, Int.reduceSub, e9]
                  refine hK3 _ _ _ (by omega) (Up.here ⟨rfl, ?_, hp, ⟨fm, hm, fun k hk => ?_⟩, hq, hr, lb, lc, ?_, ?_, ?_, hlm⟩)
                  · simp (disch := first | omega | assumption | (simp only [tab_len, List.length_cons, List.length_append, List.length_set, List.length_nil, List.length_replicate, List.length_map, one_int, one_bool, one_slice, one_upd, one_lay, one_if, one_c, one_by8, one_row, one_sq, one_grp, nums_len, one_alg, one_num, one_boolF] <;> omega)) only [go_sem, ↓reduceIte, Nat.reduceEqDiff, Int.reduceAdd, Int.reduceSub]
                  · rw [hfm k hk]
                    refine dec_eq ⟨fun h => h.elim .inl fun h => .inr ⟨by omega, h.2⟩, fun h => h.elim .inl fun h => ?_⟩
                    by_cases hkj : k = j
                    · subst hkj; rw [hin2.1 h.2] at h4; cases h4
                    · exact .inr ⟨by omega, h.2⟩
                  · rw [hcl]
                    simp (disch := first | omega | assumption | (simp only [tab_len, List.length_cons, List.length_append, List.length_set, List.length_nil, List.length_replicate, List.length_map, one_int, one_bool, one_slice, one_upd, one_lay, one_if, one_c, one_by8, one_row, one_sq, one_grp, nums_len, one_alg, one_num, one_boolF] <;> omega)) only [go_sem, ↓reduceIte, Nat.reduceEqDiff, Int.reduceAdd, Int.reduceSub, e8]
                  · rw [hcl]; exact hlb
                  · rw [hcl]; exact hlc
              · have : j = x := by omega
                subst this
                simp (disch := first | omega | assumption | (simp only [tab_len, List.length_cons, List.length_append, List.length_set, List.length_nil, List.length_replicate, List.length_map, one_int, one_bool, one_slice, one_upd, one_lay, one_if, one_c, one_by8, one_row, one_sq, one_grp, nums_len, one_alg, one_num, one_boolF] <;> omega)) only [go_sem, ↓reduceIte, Nat.reduceEqDiff, Int.reduceAdd, Int.reduceSub, v4, v5, e8]
                refine anew_intro fun rb rb1 rb2 rb3 => ?_
                have rb0 := rb1
                try simp only [upd_none] at rb0
                have b1 := fresh_ne hp rb1
                have b2 := fresh_ne hm rb1
                have b3 := fresh_ne hq rb1
                have b4 := fresh_ne hlb rb1
                have w1 := ne_ty hlb hm (by decide)
                have w2 := ne_ty hlb hp (by decide)
                have w3 := ne_ty hlb hq (by decide)
                have hψl : ψ lb = none := by
                  cases hp : ψ lb with
                  | none => rfl
                  | some x => have := (ap3 lb x).2 hp; rw [hlb] at this; cases this
                try simp (disch := first | omega | assumption | (simp only [tab_len, List.length_cons, List.length_append, List.length_set, List.length_nil, List.length_replicate, List.length_map, one_int, one_bool, one_slice, one_upd, one_lay, one_if, one_c, one_by8, one_row, one_sq, one_grp, nums_len, one_alg, one_num, one_boolF] <;> omega)) only [go_sem, ↓reduceIte, Nat.reduceEqDiff, Int.reduceAdd, Int.reduceSub]
                refine append_at (e := 41) (ty := 41) (tot := 1) (l := cells) (l' := [.slice (some ⟨lb, 0, none⟩) (cl G j i).length lc]) Try.underlying39 a39 c41 y39 (by rw [upd_ne (Ne.symm b3)]; exact hq) hin.1 hqc hcm
                  (by simp only [all, over, upd_same, Option.some_or]; rfl) rfl rfl (by omega) (by omega) (by omega) fun g c2 g1 g2 g3 k1 k2 => ?_
                have gm : g ≠ m := fun e => by rw [e, upd_ne (Ne.symm (ne_ty hq hm (by decide))), upd_ne (Ne.symm b2), hm] at g1; cases g1
                have gp : g ≠ p := fun e => by rw [e, upd_ne (Ne.symm (ne_ty hq hp (by decide))), upd_ne (Ne.symm b1), hp] at g1; cases g1
                have gl : g ≠ lb := fun e => by rw [e, upd_ne w3, upd_ne (Ne.symm b4), hlb] at g1; cases g1
                simp (disch := first | omega | assumption | (simp only [tab_len, List.length_cons, List.length_append, List.length_set, List.length_nil, List.length_replicate, List.length_map, one_int, one_bool, one_slice, one_upd, one_lay, one_if, one_c, one_by8, one_row, one_sq, one_grp, nums_len, one_alg, one_num, one_boolF] <;> omega)) only [go_sem, ↓reduceIte, Nat.reduceEqDiff, Int.reduceAdd, Int.reduceSub, v5]
                refine hK _ _ _ (by omega) (Up.lay (g := lb) (e := ⟨2, tab (clUp G j i j).length (numF fun k => ((clUp G j i j).getD k 0 : Nat)), lc⟩) (M' := upd _ lb none) ?_ rfl hψl le_drop (upd_same ..) ⟨?_, ⟨tp, ?_⟩, ⟨fm, tm, ?_, fun k hk => ?_⟩, g, c2, cells ++ [.slice (some ⟨lb, 0, none⟩) (cl G j i).length lc], ?_, ?_, ?_, k2, ?_⟩)
                · rw [upd_ne (Ne.symm gl), upd_ne w3, upd_ne (Ne.symm b4)]; exact hlb
                · simp (disch := first | omega | assumption | (simp only [tab_len, List.length_cons, List.length_append, List.length_set, List.length_nil, List.length_replicate, List.length_map, one_int, one_bool, one_slice, one_upd, one_lay, one_if, one_c, one_by8, one_row, one_sq, one_grp, nums_len, one_alg, one_num, one_boolF] <;> omega)) only [go_sem, ↓reduceIte, Nat.reduceEqDiff, Int.reduceAdd, Int.reduceSub]
                · rw [upd_ne (Ne.symm w2), upd_ne (Ne.symm gp), upd_ne (Ne.symm (ne_ty hq hp (by decide))), upd_ne (Ne.symm b1)]; exact hp
                · rw [upd_ne (Ne.symm w1), upd_ne (Ne.symm gm), upd_ne (Ne.symm (ne_ty hq hm (by decide))), upd_ne (Ne.symm b2)]; exact hm
                · rw [hfm k hk]
                  refine dec_eq ⟨fun h => h.elim (fun ⟨a, ha, h1, h2⟩ => ⟨a, by omega, h1, h2⟩) fun h => ⟨i, by omega, hrep, h.2⟩, fun ⟨a, ha, h1, h2⟩ => ?_⟩
                  by_cases hai : a = i
                  · subst hai; exact .inr ⟨hk, h2⟩
                  · exact .inl ⟨a, by omega, h1, h2⟩
                · rw [clsUp_succ, hrep]
                  simp (disch := first | omega | assumption | (simp only [tab_len, List.length_cons, List.length_append, List.length_set, List.length_nil, List.length_replicate, List.length_map, one_int, one_bool, one_slice, one_upd, one_lay, one_if, one_c, one_by8, one_row, one_sq, one_grp, nums_len, one_alg, one_num, one_boolF] <;> omega)) only [go_sem, ↓reduceIte, Nat.reduceEqDiff, Int.reduceAdd, Int.reduceSub, List.length_append, List.length_cons, List.length_nil]
                · rw [upd_ne gl, upd_same]
                · rw [clsUp_succ, hrep]; simpa using k1
                · rw [clsUp_succ, hrep]
                  exact (hin.mono (le_upd hψl)).app (upd_same ..) (Nat.le_refl _) (fun k hk => rfl)
      · rw [hfi] at hmi
        have hrep : ¬ isRep G n i = true := (met_iff hg (show i < n by omega)).1 (dec_iff.1 hmi.symm)
        have hno : ∀ j, (∃ i' < i + 1, isRep G n i' = true ∧ j ∈ cl G n i') ↔ (∃ i' < i, isRep G n i' = true ∧ j ∈ cl G n i') := fun j => by
          constructor
          · rintro ⟨k, hk, h1, h2⟩
            by_cases hki : k = i
            · subst hki; exact (hrep h1).elim
            · exact ⟨k, by omega, h1, h2⟩
          · rintro ⟨k, hk, h1, h2⟩; exact ⟨k, by omega, h1, h2⟩
        simp (disch := first | omega | assumption | (simp only [tab_len, List.length_cons, List.length_append, List.length_set, List.length_nil, List.length_replicate, List.length_map, one_int, one_bool, one_slice, one_upd, one_lay, one_if, one_c, one_by8, one_row, one_sq, one_grp, nums_len, one_alg, one_num, one_boolF] <;> omega)) only [go_sem, ↓reduceIte, Nat.reduceEqDiff, Int.reduceAdd, Int.reduceSub, e5]
        refine hK _ _ _ (by omega) (Up.here ⟨?_, ⟨tp, hp⟩, ⟨fm, tm, hm, fun j hj => by rw [hfm j hj]; exact (dec_eq (hno j)).symm⟩, q, c, cells, ?_, hq, ?_, hcm, ?_⟩)
        · simp (disch := first | omega | assumption | (simp only [tab_len, List.length_cons, List.length_append, List.length_set, List.length_nil, List.length_replicate, List.length_map, one_int, one_bool, one_slice, one_upd, one_lay, one_if, one_c, one_by8, one_row, one_sq, one_grp, nums_len, one_alg, one_num, one_boolF] <;> omega)) only [go_sem, ↓reduceIte, Nat.reduceEqDiff, Int.reduceAdd, Int.reduceSub]
        · rw [clsUp_succ, if_neg hrep, List.append_nil]
          simp (disch := first | omega | assumption | (simp only [tab_len, List.length_cons, List.length_append, List.length_set, List.length_nil, List.length_replicate, List.length_map, one_int, one_bool, one_slice, one_upd, one_lay, one_if, one_c, one_by8, one_row, one_sq, one_grp, nums_len, one_alg, one_num, one_boolF] <;> omega)) only [go_sem, ↓reduceIte, Nat.reduceEqDiff, Int.reduceAdd, Int.reduceSub, e4]
        · rw [clsUp_succ, if_neg hrep, List.append_nil]; exact hqc
        · rw [clsUp_succ, if_neg hrep, List.append_nil]; exact hin
    · simp (disch := first | omega | assumption | (simp only [tab_len, List.length_cons, List.length_append, List.length_set, List.length_nil, List.length_replicate, List.length_map, one_int, one_bool, one_slice, one_upd, one_lay, one_if, one_c, one_by8, one_row, one_sq, one_grp, nums_len, one_alg, one_num, one_boolF] <;> omega)) only [go_sem, ↓reduceIte, Nat.reduceEqDiff, Int.reduceAdd, Int.reduceSub, e4]
      have : i = n := by omega
      subst this
      have hψq : ψ q = none := by
        cases hp : ψ q with
        | none => rfl
        | some x => have := (ap q x).2 hp; rw [hq] at this; cases this
      exact Up.lay (g := q) (M' := none') hq rfl hψq (Le.none _) rfl ⟨rfl, q, c, cells, c, rfl, upd_same .., hin.mono (le_upd hψq)⟩
end Go.Proofs.Ytbenllhoofoahaa

