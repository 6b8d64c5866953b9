/- Algebras: group algebras. -/
import Derived.Test.YtbenllhoofoahaaFnD
namespace Go.Proofs.Ytbenllhoofoahaa
set_option linter.unusedSimpArgs false
set_option linter.unusedVariables false
set_option maxRecDepth 4000
open Go Go.Vc
structure Alg where
  p : Int
  n : Int
  T : Nat → Nat → Nat → UInt8
  F : Nat → UInt8
def algF (A : Alg) (k : Nat) : Value := if k < 1 then i64 A.p else if k < 2 then i64 A.n else if k < 218 then by8 (A.T ((k - 2) / 36) ((k - 2) / 6 % 6) ((k - 2) % 6)) else by8 (A.F (k - 218))
theorem algF_0 (A : Alg) : algF A 0 = i64 A.p := rfl
theorem algF_1 (A : Alg) : algF A 1 = i64 A.n := rfl
theorem algF_T (A : Alg) (i j k : Nat) (hi : i < 6) (hj : j < 6) (hk : k < 6) : algF A (2 + i * 36 + j * 6 + k) = by8 (A.T i j k) := by
  unfold algF
  rw [if_neg (by omega), if_neg (by omega), if_pos (by omega), show (2 + i * 36 + j * 6 + k - 2) / 36 = i by omega, show (2 + i * 36 + j * 6 + k - 2) / 6 % 6 = j by omega, show (2 + i * 36 + j * 6 + k - 2) % 6 = k by omega]
theorem algF_F (A : Alg) (i : Nat) : algF A (218 + i) = by8 (A.F i) := by
  unfold algF
  rw [if_neg (by omega), if_neg (by omega), if_neg (by omega), show 218 + i - 218 = i by omega]
theorem one_alg (n) (A : Alg) : One n (algF A) := fun k => by unfold algF; (repeat' split) <;> rfl
def set3 (T : Nat → Nat → Nat → UInt8) (i j k : Nat) (x : UInt8) (a b c : Nat) : UInt8 := if a = i ∧ b = j ∧ c = k then x else T a b c
theorem alg_set3 (A : Alg) (i j k : Nat) (x : UInt8) (hi : i < 6) (hj : j < 6) (hk : k < 6) : tab 224 (upd (algF A) (2 + i * 36 + j * 6 + k) (by8 x)) = tab 224 (algF { A with T := set3 A.T i j k x }) := tab_eq fun m hm => by
  by_cases h : m = 2 + i * 36 + j * 6 + k
  · subst h; rw [upd_same, algF_T _ _ _ _ hi hj hk]; simp [set3]
  · rw [upd_ne h]
    by_cases h1 : m < 2
    · unfold algF; by_cases h2 : m < 1
      · rw [if_pos h2, if_pos h2]
      · rw [if_neg h2, if_neg h2, if_pos h1, if_pos h1]
    · by_cases h3 : m < 218
      · obtain ⟨a, b, c, ha, hb, hc, rfl⟩ : ∃ a b c, a < 6 ∧ b < 6 ∧ c < 6 ∧ m = 2 + a * 36 + b * 6 + c := ⟨(m - 2) / 36, (m - 2) / 6 % 6, (m - 2) % 6, by omega, by omega, by omega, by omega⟩
        rw [algF_T _ _ _ _ ha hb hc, algF_T _ _ _ _ ha hb hc]
        have : ¬ (a = i ∧ b = j ∧ c = k) := by rintro ⟨rfl, rfl, rfl⟩; exact h rfl
        simp [set3, this]
      · obtain ⟨a, rfl⟩ : ∃ a, m = 218 + a := ⟨m - 218, by omega⟩
        rw [algF_F, algF_F]
theorem alg_setF (A : Alg) (i : Nat) (x : UInt8) (hi : i < 6) : tab 224 (upd (algF A) (218 + i) (by8 x)) = tab 224 (algF { A with F := upd A.F i x }) := tab_eq fun m hm => by
  by_cases h : m = 218 + i
  · subst h; rw [upd_same, algF_F]; simp [upd_same]
  · rw [upd_ne h]
    by_cases h3 : m < 218
    · unfold algF; simp only [h3, if_true]
    · obtain ⟨a, rfl⟩ : ∃ a, m = 218 + a := ⟨m - 218, by omega⟩
      rw [algF_F, algF_F]; show _ = by8 (upd A.F i x a); rw [upd_ne (by omega)]
/-- A group's table as one of an algebra, up to a place. -/
def gT (G : Grp) (n i j a b c : Nat) : UInt8 := if (a < i ∨ (a = i ∧ b < j)) ∧ b < n ∧ c = (G.T a b).toNat then 1 else 0
theorem gT_set (G : Grp) (n i j : Nat) (hj : j < n) : set3 (gT G n i j) i j (G.T i j).toNat 1 = gT G n i (j + 1) := by
  funext a b c
  unfold set3 gT
  by_cases h : a = i ∧ b = j ∧ c = (G.T i j).toNat
  · obtain ⟨rfl, rfl, rfl⟩ := h
    rw [if_pos ⟨rfl, rfl, rfl⟩, if_pos ⟨.inr ⟨rfl, by omega⟩, hj, rfl⟩]
  · rw [if_neg h]
    congr 1
    apply propext
    constructor
    · rintro ⟨h1, h2, h3⟩; exact ⟨by omega, h2, h3⟩
    · rintro ⟨h1, h2, h3⟩
      refine ⟨?_, h2, h3⟩
      by_cases hb : a = i ∧ b = j
      · obtain ⟨rfl, rfl⟩ := hb; exact (h ⟨rfl, rfl, h3⟩).elim
      · omega
theorem gT_row (G : Grp) (n i : Nat) : gT G n i n = gT G n (i + 1) 0 := by
  funext a b c
  unfold gT
  congr 1
  apply propext
  constructor
  · rintro ⟨h1, h2, h3⟩; exact ⟨by omega, h2, h3⟩
  · rintro ⟨h1, h2, h3⟩; exact ⟨by omega, h2, h3⟩
theorem gT_0 (G : Grp) (n : Nat) : gT G n 0 0 = fun _ _ _ => 0 := by
  funext a b c
  unfold gT
  rw [if_neg (by rintro ⟨h, _⟩; omega)]
def unitF (k : Nat) : UInt8 := if k = 0 then 1 else 0
/-- The group's algebra. -/
def gAlg (p : Int) (G : Grp) (n : Nat) : Alg := ⟨p, n, gT G n n 0, unitF⟩
theorem alg_made (p n : Int) (F : Nat → UInt8) (g : Nat → Value) (hg : ∀ k < 6, g k = by8 (F k)) :
    (tab 224 fun k => if k < 1 then .int .i64 p else if k < 2 then .int .i64 n else if k < 218 then .int .u8 0 else g (k - 218)) = tab 224 (algF ⟨p, n, fun _ _ _ => 0, F⟩) := tab_eq fun k hk => by
  unfold algF
  by_cases h1 : k < 1
  · rw [if_pos h1, if_pos h1]
  · by_cases h2 : k < 2
    · rw [if_neg h1, if_neg h1, if_pos h2, if_pos h2]
    · by_cases h3 : k < 218
      · rw [if_neg h1, if_neg h1, if_neg h2, if_neg h2, if_pos h3, if_pos h3]; rfl
      · rw [if_neg h1, if_neg h1, if_neg h2, if_neg h2, if_neg h3, if_neg h3, hg _ (by omega)]
theorem alg_made0 (p n : Int) :
    (tab 224 fun k => if k < 1 then .int .i64 p else if k < 2 then .int .i64 n else .int .u8 0) = tab 224 (algF ⟨p, n, fun _ _ _ => 0, fun _ => 0⟩) := by
  rw [← alg_made p n (fun _ => 0) (fun _ => by8 0) fun _ _ => rfl]
  refine tab_eq fun k hk => ?_
  by_cases h1 : k < 1
  · rw [if_pos h1, if_pos h1]
  · by_cases h2 : k < 2
    · rw [if_neg h1, if_neg h1, if_pos h2, if_pos h2]
    · by_cases h3 : k < 218
      · rw [if_neg h1, if_neg h1, if_neg h2, if_neg h2, if_pos h3]
      · rw [if_neg h1, if_neg h1, if_neg h2, if_neg h2, if_neg h3]; rfl
theorem alg_form1 (p n : Int) (T : Nat → Nat → Nat → UInt8) : tab 224 (upd (algF ⟨p, n, T, fun _ => 0⟩) 218 (.int .u8 1)) = tab 224 (algF ⟨p, n, T, unitF⟩) := alg_setF ⟨p, n, T, fun _ => 0⟩ 0 1 (by omega)
theorem sp_algebra (κ : Mem) (p : Int) (G : Grp) (n : Nat) (hn : G.n = n) (hg : IsG G n) : Gives Try.prog 38 [i64 p, .agg (tab 37 (grpF G)).toArray] κ (.agg (tab 224 (algF (gAlg p G n))).toArray) := by
  have h6 := hg.1.2
  have hT : ∀ i j, i < n → j < n → (G.T i j).toNat < n := fun i j hi hj => by
    have := hg.2.1 i (by omega) j (by omega); unfold inTab at this; rwa [if_pos ⟨hi, hj⟩] at this
  refine gives_of (rs := [.cell 4 29]) mixed Try.func38 rfl ok38 (by kernel_rfl) (by show 2 ≤ _; decide) rfl ?_
  simp (disch := first | omega | assumption | (simp only [tab_len, List.length_cons, List.length_append, List.length_set, List.length_nil, List.length_replicate, List.length_map, one_int, one_bool, one_slice, one_upd, one_lay, one_if, one_c, one_by8, one_row, one_sq, one_grp, nums_len, one_alg] <;> omega)) only [go_sem, ↓reduceIte, Nat.reduceEqDiff, Int.reduceAdd, Int.reduceSub]
  refine anew_intro fun q q1 q2 q3 => ?_
  have q0 := q1
  try simp only [upd_none] at q0
  simp (disch := first | omega | assumption | (simp only [tab_len, List.length_cons, List.length_append, List.length_set, List.length_nil, List.length_replicate, List.length_map, one_int, one_bool, one_slice, one_upd, one_lay, one_if, one_c, one_by8, one_row, one_sq, one_grp, nums_len, one_alg] <;> omega)) only [go_sem, ↓reduceIte, Nat.reduceEqDiff, Int.reduceAdd, Int.reduceSub]
  refine anew_intro fun r r1 r2 r3 => ?_
  have r0 := r1
  try simp only [upd_none] at r0
  simp (disch := first | omega | assumption | (simp only [tab_len, List.length_cons, List.length_append, List.length_set, List.length_nil, List.length_replicate, List.length_map, one_int, one_bool, one_slice, one_upd, one_lay, one_if, one_c, one_by8, one_row, one_sq, one_grp, nums_len, one_alg] <;> omega)) only [go_sem, ↓reduceIte, Nat.reduceEqDiff, Int.reduceAdd, Int.reduceSub, grpF_0, hn]
  refine anew_intro fun s s1 s2 s3 => ?_
  have s0 := s1
  try simp only [upd_none] at s0
  simp (disch := first | omega | assumption | (simp only [tab_len, List.length_cons, List.length_append, List.length_set, List.length_nil, List.length_replicate, List.length_map, one_int, one_bool, one_slice, one_upd, one_lay, one_if, one_c, one_by8, one_row, one_sq, one_grp, nums_len, one_alg] <;> omega)) only [go_sem, ↓reduceIte, Nat.reduceEqDiff, Int.reduceAdd, Int.reduceSub, alg_made0]
  generalize hM : (upd _ _ _ : Mem) = M0
  have hq : Has M0 q 35 (tab 37 (grpF G)) := by rw [← hM]; (simp (disch := first | omega | assumption | (simp only [tab_len, List.length_cons, List.length_append, List.length_set, List.length_nil, List.length_replicate, List.length_map, one_int, one_bool, one_slice, one_upd, one_lay, one_if, one_c, one_by8, one_row, one_sq, one_grp, nums_len, one_alg] <;> omega)) only [go_sem, ↓reduceIte, Nat.reduceEqDiff, Int.reduceAdd, Int.reduceSub, has_ne, has_same, true_and])
  have hr : Has M0 r 29 (tab 224 fun k => if k < 2 then Value.int .i64 0 else Value.int .u8 0) := by rw [← hM]; (simp (disch := first | omega | assumption | (simp only [tab_len, List.length_cons, List.length_append, List.length_set, List.length_nil, List.length_replicate, List.length_map, one_int, one_bool, one_slice, one_upd, one_lay, one_if, one_c, one_by8, one_row, one_sq, one_grp, nums_len, one_alg] <;> omega)) only [go_sem, ↓reduceIte, Nat.reduceEqDiff, Int.reduceAdd, Int.reduceSub, has_ne, has_same, true_and])
  have hs : Has M0 s 29 (tab 224 (algF ⟨p, n, gT G n 0 0, fun _ => 0⟩)) := by rw [← hM, gT_0]; (simp (disch := first | omega | assumption | (simp only [tab_len, List.length_cons, List.length_append, List.length_set, List.length_nil, List.length_replicate, List.length_map, one_int, one_bool, one_slice, one_upd, one_lay, one_if, one_c, one_by8, one_row, one_sq, one_grp, nums_len, one_alg] <;> omega)) only [go_sem, ↓reduceIte, Nat.reduceEqDiff, Int.reduceAdd, Int.reduceSub, has_ne, has_same, true_and])
  clear hM
  refine vc_up n 0 (fun i env M ψ => ψ = none' ∧ env 6 = .int .i64 i ∧ Has M q 35 (tab 37 (grpF G)) ∧ Has M r 29 (tab 224 fun k => if k < 2 then Value.int .i64 0 else Value.int .u8 0) ∧ Has M s 29 (tab 224 (algF ⟨p, n, gT G n i 0, fun _ => 0⟩))) (by omega) ?_ ?_
  · refine ⟨rfl, ?_, hq, hr, hs⟩
    simp (disch := first | omega | assumption | (simp only [tab_len, List.length_cons, List.length_append, List.length_set, List.length_nil, List.length_replicate, List.length_map, one_int, one_bool, one_slice, one_upd, one_lay, one_if, one_c, one_by8, one_row, one_sq, one_grp, nums_len, one_alg] <;> omega)) only [go_sem, ↓reduceIte, Nat.reduceEqDiff, Int.reduceAdd, Int.reduceSub]
  · rintro i env M ψ hi hf - ap ⟨rfl, e6, ⟨tq, hq⟩, ⟨tr, hr⟩, ts, hs⟩ K hK
    have e3 := hf 3 (by kernel_rfl)
    have e4 := hf 4 (by kernel_rfl)
    have e5 := hf 5 (by kernel_rfl)
    simp (disch := first | omega | assumption | (simp only [tab_len, List.length_cons, List.length_append, List.length_set, List.length_nil, List.length_replicate, List.length_map, one_int, one_bool, one_slice, one_upd, one_lay, one_if, one_c, one_by8, one_row, one_sq, one_grp, nums_len, one_alg] <;> omega)) only [go_sem, ↓reduceIte, Nat.reduceEqDiff, Int.reduceAdd, Int.reduceSub] at e3
    simp (disch := first | omega | assumption | (simp only [tab_len, List.length_cons, List.length_append, List.length_set, List.length_nil, List.length_replicate, List.length_map, one_int, one_bool, one_slice, one_upd, one_lay, one_if, one_c, one_by8, one_row, one_sq, one_grp, nums_len, one_alg] <;> omega)) only [go_sem, ↓reduceIte, Nat.reduceEqDiff, Int.reduceAdd, Int.reduceSub] at e4
    simp (disch := first | omega | assumption | (simp only [tab_len, List.length_cons, List.length_append, List.length_set, List.length_nil, List.length_replicate, List.length_map, one_int, one_bool, one_slice, one_upd, one_lay, one_if, one_c, one_by8, one_row, one_sq, one_grp, nums_len, one_alg] <;> omega)) only [go_sem, ↓reduceIte, Nat.reduceEqDiff, Int.reduceAdd, Int.reduceSub] at e5
    simp (disch := first | omega | assumption | (simp only [tab_len, List.length_cons, List.length_append, List.length_set, List.length_nil, List.length_replicate, List.length_map, one_int, one_bool, one_slice, one_upd, one_lay, one_if, one_c, one_by8, one_row, one_sq, one_grp, nums_len, one_alg] <;> omega)) only [go_sem, ↓reduceIte, Nat.reduceEqDiff, Int.reduceAdd, Int.reduceSub, e3, e6, hq, grpF_0, hn]
    refine ifB_dec (fun h => ?_) (fun h => ?_)
    · simp (disch := first | omega | assumption | (simp only [tab_len, List.length_cons, List.length_append, List.length_set, List.length_nil, List.length_replicate, List.length_map, one_int, one_bool, one_slice, one_upd, one_lay, one_if, one_c, one_by8, one_row, one_sq, one_grp, nums_len, one_alg] <;> omega)) only [go_sem, ↓reduceIte, Nat.reduceEqDiff, Int.reduceAdd, Int.reduceSub, e3, e6]
      refine vc_up n 0 (fun j env M ψ => ψ = none' ∧ env 7 = .int .i64 j ∧ Has M q 35 (tab 37 (grpF G)) ∧ Has M r 29 (tab 224 fun k => if k < 2 then Value.int .i64 0 else Value.int .u8 0) ∧ Has M s 29 (tab 224 (algF ⟨p, n, gT G n i j, fun _ => 0⟩))) (by omega) ?_ ?_
      · refine ⟨rfl, ?_, ⟨_, hq⟩, ⟨_, hr⟩, ⟨_, hs⟩⟩
        simp (disch := first | omega | assumption | (simp only [tab_len, List.length_cons, List.length_append, List.length_set, List.length_nil, List.length_replicate, List.length_map, one_int, one_bool, one_slice, one_upd, one_lay, one_if, one_c, one_by8, one_row, one_sq, one_grp, nums_len, one_alg] <;> omega)) only [go_sem, ↓reduceIte, Nat.reduceEqDiff, Int.reduceAdd, Int.reduceSub]
      · rintro j env2 M ψ hj hf2 - ap2 ⟨rfl, e7, ⟨tq, hq⟩, ⟨tr, hr⟩, ts, hs⟩ K2 hK2
        have u3 := hf2 3 (by kernel_rfl)
        have u4 := hf2 4 (by kernel_rfl)
        have u5 := hf2 5 (by kernel_rfl)
        have u6 := hf2 6 (by kernel_rfl)
        simp (disch := first | omega | assumption | (simp only [tab_len, List.length_cons, List.length_append, List.length_set, List.length_nil, List.length_replicate, List.length_map, one_int, one_bool, one_slice, one_upd, one_lay, one_if, one_c, one_by8, one_row, one_sq, one_grp, nums_len, one_alg] <;> omega)) only [go_sem, ↓reduceIte, Nat.reduceEqDiff, Int.reduceAdd, Int.reduceSub, e3, e4, e5, e6] at u3
        simp (disch := first | omega | assumption | (simp only [tab_len, List.length_cons, List.length_append, List.length_set, List.length_nil, List.length_replicate, List.length_map, one_int, one_bool, one_slice, one_upd, one_lay, one_if, one_c, one_by8, one_row, one_sq, one_grp, nums_len, one_alg] <;> omega)) only [go_sem, ↓reduceIte, Nat.reduceEqDiff, Int.reduceAdd, Int.reduceSub, e3, e4, e5, e6] at u4
        simp (disch := first | omega | assumption | (simp only [tab_len, List.length_cons, List.length_append, List.length_set, List.length_nil, List.length_replicate, List.length_map, one_int, one_bool, one_slice, one_upd, one_lay, one_if, one_c, one_by8, one_row, one_sq, one_grp, nums_len, one_alg] <;> omega)) only [go_sem, ↓reduceIte, Nat.reduceEqDiff, Int.reduceAdd, Int.reduceSub, e3, e4, e5, e6] at u5
        simp (disch := first | omega | assumption | (simp only [tab_len, List.length_cons, List.length_append, List.length_set, List.length_nil, List.length_replicate, List.length_map, one_int, one_bool, one_slice, one_upd, one_lay, one_if, one_c, one_by8, one_row, one_sq, one_grp, nums_len, one_alg] <;> omega)) only [go_sem, ↓reduceIte, Nat.reduceEqDiff, Int.reduceAdd, Int.reduceSub, e3, e4, e5, e6] at u6
        simp (disch := first | omega | assumption | (simp only [tab_len, List.length_cons, List.length_append, List.length_set, List.length_nil, List.length_replicate, List.length_map, one_int, one_bool, one_slice, one_upd, one_lay, one_if, one_c, one_by8, one_row, one_sq, one_grp, nums_len, one_alg] <;> omega)) only [go_sem, ↓reduceIte, Nat.reduceEqDiff, Int.reduceAdd, Int.reduceSub, u3, e7, hq, grpF_0, hn]
        refine ifB_dec (fun h2 => ?_) (fun h2 => ?_)
        · have q1 := hT i j (by omega) (by omega)
          simp (disch := first | omega | assumption | (simp only [tab_len, List.length_cons, List.length_append, List.length_set, List.length_nil, List.length_replicate, List.length_map, one_int, one_bool, one_slice, one_upd, one_lay, one_if, one_c, one_by8, one_row, one_sq, one_grp, nums_len, one_alg] <;> omega)) only [go_sem, ↓reduceIte, Nat.reduceEqDiff, Int.reduceAdd, Int.reduceSub, u3, u5, u6, e7]
          refine run_drawn [(0, []), (1, []), (2, []), (3, []), (4, []), (5, []), (6, []), (7, []), (8, []), (9, []), (10, []), (11, []), (12, [])] (by kernel_rfl) ?_
          simp (disch := first | omega | assumption | (simp only [tab_len, List.length_cons, List.length_append, List.length_set, List.length_nil, List.length_replicate, List.length_map, one_int, one_bool, one_slice, one_upd, one_lay, one_if, one_c, one_by8, one_row, one_sq, one_grp, nums_len, one_alg] <;> omega)) only [go_sem, ↓reduceIte, Nat.reduceEqDiff, Int.reduceAdd, Int.reduceSub, u3, u5, u6, e7, hq, hs, grpF_at]
          rw [show (Value.int .u8 1) = by8 1 from rfl, alg_set3 _ _ _ _ _ (by omega) (by omega) (by omega), gT_set _ _ _ _ (by omega)]
          refine hK2 _ _ _ (by omega) (Up.here ⟨rfl, ?_, ?_, ?_, ?_⟩)
          · simp (disch := first | omega | assumption | (simp only [tab_len, List.length_cons, List.length_append, List.length_set, List.length_nil, List.length_replicate, List.length_map, one_int, one_bool, one_slice, one_upd, one_lay, one_if, one_c, one_by8, one_row, one_sq, one_grp, nums_len, one_alg] <;> omega)) only [go_sem, ↓reduceIte, Nat.reduceEqDiff, Int.reduceAdd, Int.reduceSub]
          · rw [has_ne _ _ _ _ _ (by omega)]; exact ⟨_, hq⟩
          · rw [has_ne _ _ _ _ _ (by omega)]; exact ⟨_, hr⟩
          · rw [has_same]; exact ⟨rfl, rfl⟩
        · simp (disch := first | omega | assumption | (simp only [tab_len, List.length_cons, List.length_append, List.length_set, List.length_nil, List.length_replicate, List.length_map, one_int, one_bool, one_slice, one_upd, one_lay, one_if, one_c, one_by8, one_row, one_sq, one_grp, nums_len, one_alg] <;> omega)) only [go_sem, ↓reduceIte, Nat.reduceEqDiff, Int.reduceAdd, Int.reduceSub, u6]
          have : j = n := by omega
          subst this
          rw [gT_row] at hs
          refine hK _ _ _ (by omega) (Up.here ⟨rfl, ?_, ⟨_, hq⟩, ⟨_, hr⟩, ⟨_, hs⟩⟩)
          simp (disch := first | omega | assumption | (simp only [tab_len, List.length_cons, List.length_append, List.length_set, List.length_nil, List.length_replicate, List.length_map, one_int, one_bool, one_slice, one_upd, one_lay, one_if, one_c, one_by8, one_row, one_sq, one_grp, nums_len, one_alg] <;> omega)) only [go_sem, ↓reduceIte, Nat.reduceEqDiff, Int.reduceAdd, Int.reduceSub]
    · simp (disch := first | omega | assumption | (simp only [tab_len, List.length_cons, List.length_append, List.length_set, List.length_nil, List.length_replicate, List.length_map, one_int, one_bool, one_slice, one_upd, one_lay, one_if, one_c, one_by8, one_row, one_sq, one_grp, nums_len, one_alg] <;> omega)) only [go_sem, ↓reduceIte, Nat.reduceEqDiff, Int.reduceAdd, Int.reduceSub, e4, e5, e6, hs, hr, alg_form1]
      have : i = n := by omega
      subst this
      exact up_plain rfl (fun _ => rfl) rfl
theorem fn_built (κ : Mem) (p : Int) (G : Grp) (n : Nat) (b : Nat) (ty : TypeId) (hb : Has κ b ty (tab 37 (grpF G))) (hn : G.n = n) (hg : IsG G n) :
    Gives Try.prog 43 [i64 p, i64 n, .agg (tab 6 (rowF unitF)).toArray, .func (.func 34) #[ptr b] #[]] κ (.agg (tab 224 (algF (gAlg p G n))).toArray) := by
  have h6 := hg.1.2
  have hT : ∀ i j, i < n → j < n → (G.T i j).toNat < n := fun i j hi hj => by
    have := hg.2.1 i (by omega) j (by omega); unfold inTab at this; rwa [if_pos ⟨hi, hj⟩] at this
  refine gives_of (rs := [.cell 8 29]) mixed Try.func43 rfl ok43 (by kernel_rfl) (by show 4 ≤ _; decide) rfl ?_
  simp (disch := first | omega | assumption | (simp only [tab_len, List.length_cons, List.length_append, List.length_set, List.length_nil, List.length_replicate, List.length_map, one_int, one_bool, one_slice, one_upd, one_lay, one_if, one_c, one_by8, one_row, one_sq, one_grp, nums_len, one_alg] <;> omega)) only [go_sem, ↓reduceIte, Nat.reduceEqDiff, Int.reduceAdd, Int.reduceSub]
  refine anew_intro fun q q1 q2 q3 => ?_
  have q0 := q1
  try simp only [upd_none] at q0
  simp (disch := first | omega | assumption | (simp only [tab_len, List.length_cons, List.length_append, List.length_set, List.length_nil, List.length_replicate, List.length_map, one_int, one_bool, one_slice, one_upd, one_lay, one_if, one_c, one_by8, one_row, one_sq, one_grp, nums_len, one_alg] <;> omega)) only [go_sem, ↓reduceIte, Nat.reduceEqDiff, Int.reduceAdd, Int.reduceSub]
  refine anew_intro fun r r1 r2 r3 => ?_
  have r0 := r1
  try simp only [upd_none] at r0
  simp (disch := first | omega | assumption | (simp only [tab_len, List.length_cons, List.length_append, List.length_set, List.length_nil, List.length_replicate, List.length_map, one_int, one_bool, one_slice, one_upd, one_lay, one_if, one_c, one_by8, one_row, one_sq, one_grp, nums_len, one_alg] <;> omega)) only [go_sem, ↓reduceIte, Nat.reduceEqDiff, Int.reduceAdd, Int.reduceSub]
  refine anew_intro fun s s1 s2 s3 => ?_
  have s0 := s1
  try simp only [upd_none] at s0
  simp (disch := first | omega | assumption | (simp only [tab_len, List.length_cons, List.length_append, List.length_set, List.length_nil, List.length_replicate, List.length_map, one_int, one_bool, one_slice, one_upd, one_lay, one_if, one_c, one_by8, one_row, one_sq, one_grp, nums_len, one_alg] <;> omega)) only [go_sem, ↓reduceIte, Nat.reduceEqDiff, Int.reduceAdd, Int.reduceSub, alg_made p n unitF (rowF unitF) (fun _ _ => rfl)]
  generalize hM : (upd _ _ _ : Mem) = M0
  have hr : Has M0 r 29 (tab 224 fun k => if k < 2 then Value.int .i64 0 else Value.int .u8 0) := by rw [← hM]; (simp (disch := first | omega | assumption | (simp only [tab_len, List.length_cons, List.length_append, List.length_set, List.length_nil, List.length_replicate, List.length_map, one_int, one_bool, one_slice, one_upd, one_lay, one_if, one_c, one_by8, one_row, one_sq, one_grp, nums_len, one_alg] <;> omega)) only [go_sem, ↓reduceIte, Nat.reduceEqDiff, Int.reduceAdd, Int.reduceSub, has_ne, has_same, true_and])
  have hs : Has M0 s 29 (tab 224 (algF ⟨p, n, gT G n 0 0, unitF⟩)) := by rw [← hM, gT_0]; (simp (disch := first | omega | assumption | (simp only [tab_len, List.length_cons, List.length_append, List.length_set, List.length_nil, List.length_replicate, List.length_map, one_int, one_bool, one_slice, one_upd, one_lay, one_if, one_c, one_by8, one_row, one_sq, one_grp, nums_len, one_alg] <;> omega)) only [go_sem, ↓reduceIte, Nat.reduceEqDiff, Int.reduceAdd, Int.reduceSub, has_ne, has_same, true_and])
  clear hM
  refine vc_up n 0 (fun i env M ψ => ψ = none' ∧ env 18 = .int .i64 i ∧ Has M r 29 (tab 224 fun k => if k < 2 then Value.int .i64 0 else Value.int .u8 0) ∧ Has M s 29 (tab 224 (algF ⟨p, n, gT G n i 0, unitF⟩))) (by omega) ?_ ?_
  · refine ⟨rfl, ?_, hr, hs⟩
    simp (disch := first | omega | assumption | (simp only [tab_len, List.length_cons, List.length_append, List.length_set, List.length_nil, List.length_replicate, List.length_map, one_int, one_bool, one_slice, one_upd, one_lay, one_if, one_c, one_by8, one_row, one_sq, one_grp, nums_len, one_alg] <;> omega)) only [go_sem, ↓reduceIte, Nat.reduceEqDiff, Int.reduceAdd, Int.reduceSub]
  · rintro i env M ψ hi hf - ap ⟨rfl, e18, ⟨tr, hr⟩, ts, hs⟩ K hK
    have e1 := hf 1 (by kernel_rfl)
    have e3 := hf 3 (by kernel_rfl)
    have e8 := hf 8 (by kernel_rfl)
    have e9 := hf 9 (by kernel_rfl)
    have e17 := hf 17 (by kernel_rfl)
    simp (disch := first | omega | assumption | (simp only [tab_len, List.length_cons, List.length_append, List.length_set, List.length_nil, List.length_replicate, List.length_map, one_int, one_bool, one_slice, one_upd, one_lay, one_if, one_c, one_by8, one_row, one_sq, one_grp, nums_len, one_alg] <;> omega)) only [go_sem, ↓reduceIte, Nat.reduceEqDiff, Int.reduceAdd, Int.reduceSub] at e1
    simp (disch := first | omega | assumption | (simp only [tab_len, List.length_cons, List.length_append, List.length_set, List.length_nil, List.length_replicate, List.length_map, one_int, one_bool, one_slice, one_upd, one_lay, one_if, one_c, one_by8, one_row, one_sq, one_grp, nums_len, one_alg] <;> omega)) only [go_sem, ↓reduceIte, Nat.reduceEqDiff, Int.reduceAdd, Int.reduceSub] at e3
    simp (disch := first | omega | assumption | (simp only [tab_len, List.length_cons, List.length_append, List.length_set, List.length_nil, List.length_replicate, List.length_map, one_int, one_bool, one_slice, one_upd, one_lay, one_if, one_c, one_by8, one_row, one_sq, one_grp, nums_len, one_alg] <;> omega)) only [go_sem, ↓reduceIte, Nat.reduceEqDiff, Int.reduceAdd, Int.reduceSub] at e8
    simp (disch := first | omega | assumption | (simp only [tab_len, List.length_cons, List.length_append, List.length_set, List.length_nil, List.length_replicate, List.length_map, one_int, one_bool, one_slice, one_upd, one_lay, one_if, one_c, one_by8, one_row, one_sq, one_grp, nums_len, one_alg] <;> omega)) only [go_sem, ↓reduceIte, Nat.reduceEqDiff, Int.reduceAdd, Int.reduceSub] at e9
    simp (disch := first | omega | assumption | (simp only [tab_len, List.length_cons, List.length_append, List.length_set, List.length_nil, List.length_replicate, List.length_map, one_int, one_bool, one_slice, one_upd, one_lay, one_if, one_c, one_by8, one_row, one_sq, one_grp, nums_len, one_alg] <;> omega)) only [go_sem, ↓reduceIte, Nat.reduceEqDiff, Int.reduceAdd, Int.reduceSub] at e17
    simp (disch := first | omega | assumption | (simp only [tab_len, List.length_cons, List.length_append, List.length_set, List.length_nil, List.length_replicate, List.length_map, one_int, one_bool, one_slice, one_upd, one_lay, one_if, one_c, one_by8, one_row, one_sq, one_grp, nums_len, one_alg] <;> omega)) only [go_sem, ↓reduceIte, Nat.reduceEqDiff, Int.reduceAdd, Int.reduceSub, e17, e18]
    refine ifB_dec (fun h => ?_) (fun h => ?_)
    · simp (disch := first | omega | assumption | (simp only [tab_len, List.length_cons, List.length_append, List.length_set, List.length_nil, List.length_replicate, List.length_map, one_int, one_bool, one_slice, one_upd, one_lay, one_if, one_c, one_by8, one_row, one_sq, one_grp, nums_len, one_alg] <;> omega)) only [go_sem, ↓reduceIte, Nat.reduceEqDiff, Int.reduceAdd, Int.reduceSub, e1, e18]
      refine vc_up n 0 (fun j env M ψ => ψ = none' ∧ env 22 = .int .i64 j ∧ Has M r 29 (tab 224 fun k => if k < 2 then Value.int .i64 0 else Value.int .u8 0) ∧ Has M s 29 (tab 224 (algF ⟨p, n, gT G n i j, unitF⟩))) (by omega) ?_ ?_
      · refine ⟨rfl, ?_, ⟨_, hr⟩, ⟨_, hs⟩⟩
        simp (disch := first | omega | assumption | (simp only [tab_len, List.length_cons, List.length_append, List.length_set, List.length_nil, List.length_replicate, List.length_map, one_int, one_bool, one_slice, one_upd, one_lay, one_if, one_c, one_by8, one_row, one_sq, one_grp, nums_len, one_alg] <;> omega)) only [go_sem, ↓reduceIte, Nat.reduceEqDiff, Int.reduceAdd, Int.reduceSub]
      · rintro j env2 M ψ hj hf2 - ap2 ⟨rfl, e22, ⟨tr, hr⟩, ts, hs⟩ K2 hK2
        have u3 := hf2 3 (by kernel_rfl)
        have u9 := hf2 9 (by kernel_rfl)
        have u10 := hf2 10 (by kernel_rfl)
        have u18 := hf2 18 (by kernel_rfl)
        have u21 := hf2 21 (by kernel_rfl)
        simp (disch := first | omega | assumption | (simp only [tab_len, List.length_cons, List.length_append, List.length_set, List.length_nil, List.length_replicate, List.length_map, one_int, one_bool, one_slice, one_upd, one_lay, one_if, one_c, one_by8, one_row, one_sq, one_grp, nums_len, one_alg] <;> omega)) only [go_sem, ↓reduceIte, Nat.reduceEqDiff, Int.reduceAdd, Int.reduceSub, e1, e3, e9, e18] at u3
        simp (disch := first | omega | assumption | (simp only [tab_len, List.length_cons, List.length_append, List.length_set, List.length_nil, List.length_replicate, List.length_map, one_int, one_bool, one_slice, one_upd, one_lay, one_if, one_c, one_by8, one_row, one_sq, one_grp, nums_len, one_alg] <;> omega)) only [go_sem, ↓reduceIte, Nat.reduceEqDiff, Int.reduceAdd, Int.reduceSub, e1, e3, e9, e18] at u9
        simp (disch := first | omega | assumption | (simp only [tab_len, List.length_cons, List.length_append, List.length_set, List.length_nil, List.length_replicate, List.length_map, one_int, one_bool, one_slice, one_upd, one_lay, one_if, one_c, one_by8, one_row, one_sq, one_grp, nums_len, one_alg] <;> omega)) only [go_sem, ↓reduceIte, Nat.reduceEqDiff, Int.reduceAdd, Int.reduceSub, e1, e3, e9, e18] at u10
        simp (disch := first | omega | assumption | (simp only [tab_len, List.length_cons, List.length_append, List.length_set, List.length_nil, List.length_replicate, List.length_map, one_int, one_bool, one_slice, one_upd, one_lay, one_if, one_c, one_by8, one_row, one_sq, one_grp, nums_len, one_alg] <;> omega)) only [go_sem, ↓reduceIte, Nat.reduceEqDiff, Int.reduceAdd, Int.reduceSub, e1, e3, e9, e18] at u18
        simp (disch := first | omega | assumption | (simp only [tab_len, List.length_cons, List.length_append, List.length_set, List.length_nil, List.length_replicate, List.length_map, one_int, one_bool, one_slice, one_upd, one_lay, one_if, one_c, one_by8, one_row, one_sq, one_grp, nums_len, one_alg] <;> omega)) only [go_sem, ↓reduceIte, Nat.reduceEqDiff, Int.reduceAdd, Int.reduceSub, e1, e3, e9, e18] at u21
        simp (disch := first | omega | assumption | (simp only [tab_len, List.length_cons, List.length_append, List.length_set, List.length_nil, List.length_replicate, List.length_map, one_int, one_bool, one_slice, one_upd, one_lay, one_if, one_c, one_by8, one_row, one_sq, one_grp, nums_len, one_alg] <;> omega)) only [go_sem, ↓reduceIte, Nat.reduceEqDiff, Int.reduceAdd, Int.reduceSub, u21, e22]
        refine ifB_dec (fun h2 => ?_) (fun h2 => ?_)
        · have q1 := hT i j (by omega) (by omega)
          simp (disch := first | omega | assumption | (simp only [tab_len, List.length_cons, List.length_append, List.length_set, List.length_nil, List.length_replicate, List.length_map, one_int, one_bool, one_slice, one_upd, one_lay, one_if, one_c, one_by8, one_row, one_sq, one_grp, nums_len, one_alg] <;> omega)) only [go_sem, ↓reduceIte, Nat.reduceEqDiff, Int.reduceAdd, Int.reduceSub, u3, u10, e22]
          refine callB_fv (l := [ptr b, i64 i, i64 j]) (by simp [ptr]) (fn_times G _ b ty (ap2.has hb) i j (by omega) (by omega)) ?_
          have := (G.T i j).toNat_lt
          simp (disch := first | omega | assumption | (simp only [tab_len, List.length_cons, List.length_append, List.length_set, List.length_nil, List.length_replicate, List.length_map, one_int, one_bool, one_slice, one_upd, one_lay, one_if, one_c, one_by8, one_row, one_sq, one_grp, nums_len, one_alg] <;> omega)) only [go_sem, ↓reduceIte, Nat.reduceEqDiff, Int.reduceAdd, Int.reduceSub, u9, u10]
          have h3 : (0 : Int) ≤ ((G.T i j).toNat : Int) := by omega
          simp (disch := first | omega | assumption | (simp only [tab_len, List.length_cons, List.length_append, List.length_set, List.length_nil, List.length_replicate, List.length_map, one_int, one_bool, one_slice, one_upd, one_lay, one_if, one_c, one_by8, one_row, one_sq, one_grp, nums_len, one_alg] <;> omega)) only [go_sem, ↓reduceIte, Nat.reduceEqDiff, Int.reduceAdd, Int.reduceSub, h3, u9, u10, hs]
          rw [show (Value.int .u8 1) = by8 1 from rfl, alg_set3 _ _ _ _ _ (by omega) (by omega) (by omega), gT_set _ _ _ _ (by omega)]
          simp (disch := first | omega | assumption | (simp only [tab_len, List.length_cons, List.length_append, List.length_set, List.length_nil, List.length_replicate, List.length_map, one_int, one_bool, one_slice, one_upd, one_lay, one_if, one_c, one_by8, one_row, one_sq, one_grp, nums_len, one_alg] <;> omega)) only [go_sem, ↓reduceIte, Nat.reduceEqDiff, Int.reduceAdd, Int.reduceSub, e22]
          refine hK2 _ _ _ (by omega) (Up.here ⟨rfl, ?_, ?_, ?_⟩)
          · simp (disch := first | omega | assumption | (simp only [tab_len, List.length_cons, List.length_append, List.length_set, List.length_nil, List.length_replicate, List.length_map, one_int, one_bool, one_slice, one_upd, one_lay, one_if, one_c, one_by8, one_row, one_sq, one_grp, nums_len, one_alg] <;> omega)) only [go_sem, ↓reduceIte, Nat.reduceEqDiff, Int.reduceAdd, Int.reduceSub]
          · rw [has_ne _ _ _ _ _ (by omega)]; exact ⟨_, hr⟩
          · rw [has_same]; exact ⟨rfl, rfl⟩
        · simp (disch := first | omega | assumption | (simp only [tab_len, List.length_cons, List.length_append, List.length_set, List.length_nil, List.length_replicate, List.length_map, one_int, one_bool, one_slice, one_upd, one_lay, one_if, one_c, one_by8, one_row, one_sq, one_grp, nums_len, one_alg] <;> omega)) only [go_sem, ↓reduceIte, Nat.reduceEqDiff, Int.reduceAdd, Int.reduceSub, u18]
          have : j = n := by omega
          subst this
          rw [gT_row] at hs
          refine hK _ _ _ (by omega) (Up.here ⟨rfl, ?_, ⟨_, hr⟩, ⟨_, hs⟩⟩)
          simp (disch := first | omega | assumption | (simp only [tab_len, List.length_cons, List.length_append, List.length_set, List.length_nil, List.length_replicate, List.length_map, one_int, one_bool, one_slice, one_upd, one_lay, one_if, one_c, one_by8, one_row, one_sq, one_grp, nums_len, one_alg] <;> omega)) only [go_sem, ↓reduceIte, Nat.reduceEqDiff, Int.reduceAdd, Int.reduceSub]
    · simp (disch := first | omega | assumption | (simp only [tab_len, List.length_cons, List.length_append, List.length_set, List.length_nil, List.length_replicate, List.length_map, one_int, one_bool, one_slice, one_upd, one_lay, one_if, one_c, one_by8, one_row, one_sq, one_grp, nums_len, one_alg] <;> omega)) only [go_sem, ↓reduceIte, Nat.reduceEqDiff, Int.reduceAdd, Int.reduceSub, e8, e9, hs, hr]
      have : i = n := by omega
      subst this
      exact up_plain rfl (fun _ => rfl) rfl
theorem unit_made : (tab 6 fun k => if k < 1 then Value.int .u8 1 else Value.int .u8 0) = tab 6 (rowF unitF) := tab_eq fun k hk => by
  unfold rowF unitF
  by_cases h : k < 1
  · rw [if_pos h, if_pos (by omega)]; rfl
  · rw [if_neg h, if_neg (by omega)]; rfl
theorem fn_algebra (κ : Mem) (p : Int) (G : Grp) (n : Nat) (b : Nat) (ty : TypeId) (hb : Has κ b ty (tab 37 (grpF G))) (hn : G.n = n) (hg : IsG G n) :
    Gives Try.prog 23 [ptr b, i64 p] κ (.agg (tab 224 (algF (gAlg p G n))).toArray) := by
  refine gives_of (rs := [.cell 4 29]) mixed Try.func23 rfl ok23 (by kernel_rfl) (by show 2 ≤ _; decide) rfl ?_
  simp (disch := first | omega | assumption | (simp only [tab_len, List.length_cons, List.length_append, List.length_set, List.length_nil, List.length_replicate, List.length_map, one_int, one_bool, one_slice, one_upd, one_lay, one_if, one_c, one_by8, one_row, one_sq, one_grp, nums_len, one_alg] <;> omega)) only [go_sem, ↓reduceIte, Nat.reduceEqDiff, Int.reduceAdd, Int.reduceSub]
  refine anew_intro fun q q1 q2 q3 => ?_
  have q0 := q1
  try simp only [upd_none] at q0
  simp (disch := first | omega | assumption | (simp only [tab_len, List.length_cons, List.length_append, List.length_set, List.length_nil, List.length_replicate, List.length_map, one_int, one_bool, one_slice, one_upd, one_lay, one_if, one_c, one_by8, one_row, one_sq, one_grp, nums_len, one_alg] <;> omega)) only [go_sem, ↓reduceIte, Nat.reduceEqDiff, Int.reduceAdd, Int.reduceSub]
  refine callB_gives (fn_n G _ b ty (has_new (by rw [all_none]; exact hb) q1 q2 q3)) ?_
  simp (disch := first | omega | assumption | (simp only [tab_len, List.length_cons, List.length_append, List.length_set, List.length_nil, List.length_replicate, List.length_map, one_int, one_bool, one_slice, one_upd, one_lay, one_if, one_c, one_by8, one_row, one_sq, one_grp, nums_len, one_alg] <;> omega)) only [go_sem, ↓reduceIte, Nat.reduceEqDiff, Int.reduceAdd, Int.reduceSub, hn, unit_made]
  refine callB_gives (fn_built _ p G n b ty (has_new (by rw [all_none]; exact hb) q1 q2 q3) hn hg) ?_
  simp (disch := first | omega | assumption | (simp only [tab_len, List.length_cons, List.length_append, List.length_set, List.length_nil, List.length_replicate, List.length_map, one_int, one_bool, one_slice, one_upd, one_lay, one_if, one_c, one_by8, one_row, one_sq, one_grp, nums_len, one_alg] <;> omega)) only [go_sem, ↓reduceIte, Nat.reduceEqDiff, Int.reduceAdd, Int.reduceSub]
  exact up_plain rfl (fun _ => rfl) rfl
end Go.Proofs.Ytbenllhoofoahaa

