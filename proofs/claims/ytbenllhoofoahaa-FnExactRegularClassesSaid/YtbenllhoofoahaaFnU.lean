/- GroupPair (reference). -/
import Derived.Test.YtbenllhoofoahaaFnT
namespace Go.Proofs.Ytbenllhoofoahaa
set_option linter.unusedSimpArgs false
set_option linter.unusedVariables false
set_option maxRecDepth 4000
open Go Go.Vc
theorem callB0_own {P : Program} {κ M ψ : Mem} {f : FuncId} {args : Array Value} {R : Value → Mem → Mem → Prop} {F : Value → Mem → Mem → Prop} (h : CallsX P f args none' (all κ ψ M) R)
    (hk : ∀ v M' ψ', R v M' ψ' → (∀ b, (M b ≠ none ∨ ψ b ≠ none ∨ κ b ≠ none) → M' b = none ∧ ψ' b = none) → F v (over M M') (over ψ ψ')) : @callB0 P κ (.func (.func f) #[] #[]) args ⟨F⟩ M ψ :=
  ⟨R, by simpa [CallsF] using h, hk⟩
theorem callB0_lists {P : Program} {κ M ψ : Mem} {f : FuncId} {args : Array Value} {L : List (List Nat)} {F : Value → Mem → Mem → Prop} (h : CallsX P f args none' (all κ ψ M) (fun v M ψ => M = none' ∧ Lists ψ v L))
    (hk : ∀ v ψ', Le ψ ψ' → Lists ψ' v L → F v M ψ') : @callB0 P κ (.func (.func f) #[] #[]) args ⟨F⟩ M ψ := by
  refine callB0_own h ?_
  rintro v M' ψ' ⟨rfl, hl⟩ hap
  rw [over_none']
  exact hk v _ (Le.overL _ _) (hl.mono (Le.overR fun b hb => (hap b (.inr (.inl hb))).2))
theorem callB0_val {P : Program} {κ M ψ : Mem} {f : FuncId} {args : Array Value} {V : Value} {F : Value → Mem → Mem → Prop} (h : CallsX P f args none' (all κ ψ M) (fun v M ψ => v = V ∧ M = none'))
    (hk : ∀ ψ', Le ψ ψ' → F V M ψ') : @callB0 P κ (.func (.func f) #[] #[]) args ⟨F⟩ M ψ := by
  refine callB0_own h ?_
  rintro v M' ψ' ⟨rfl, rfl⟩ hap
  rw [over_none']
  exact hk _ (Le.overL _ _)
theorem prep_alloc {P : Program} {ops : Array Oper} {env : Env} {x t : Nat} {o : Oper} {cs : List Value} {B : Prop} (ho : ops[x]? = some o) (hop : o.op = .alloc t) (hz : zeroOf P t = some cs) (hB : B) : (∀ y ∈ [x], prepOk P ops env y) ∧ B := by
  refine ⟨fun y hy => ?_, hB⟩
  obtain rfl : y = x := by simpa using hy
  unfold prepOk
  rw [ho]
  simp only [mkB, hop, hz]
  rfl
theorem firstInv_le (p x : Nat) : firstInv p x ≤ p := by
  unfold firstInv
  cases h : (List.range p).find? fun k => k * x % p == 1 with
  | none => simp
  | some k => have := List.mem_of_find?_eq_some h; simp at this; simp; omega
theorem sp_group (κ : Mem) (p n : Nat) (hp : 2 ≤ p ∧ p ≤ 13) (G : Grp) (hn : G.n = n) (hg : IsG G n) :
    CallsX Try.prog 19 #[i64 p, .agg (tab 37 (grpF G)).toArray] none' κ (fun v M ψ => v = .agg (tab 484 (pairF (pairOf p n G))).toArray ∧ M = none') := by
  have h6 := hg.1
  refine run_of (rs := [.cell 4 32]) (args := [i64 p, .agg (tab 37 (grpF G)).toArray]) mixed Try.func19 rfl ok19 (by kernel_rfl) (by show 2 ≤ _; decide) rfl ?_
  simp (disch := first | omega | assumption | (simp only [tab_len, List.length_cons, List.length_append, List.length_set, List.length_nil, List.length_replicate, List.length_map, one_int, one_bool, one_slice, one_upd, one_lay, one_if, one_c, one_by8, one_row, one_sq, one_grp, nums_len, one_alg, one_num, one_boolF, one_pair, one_zP] <;> omega)) only [go_sem, ↓reduceIte, Nat.reduceEqDiff, Int.reduceAdd, Int.reduceSub]
  refine anew_intro fun g g1 g2 g3 => ?_
  have g0 := g1
  try simp only [upd_none] at g0
  simp (disch := first | omega | assumption | (simp only [tab_len, List.length_cons, List.length_append, List.length_set, List.length_nil, List.length_replicate, List.length_map, one_int, one_bool, one_slice, one_upd, one_lay, one_if, one_c, one_by8, one_row, one_sq, one_grp, nums_len, one_alg, one_num, one_boolF, one_pair, one_zP] <;> omega)) only [go_sem, ↓reduceIte, Nat.reduceEqDiff, Int.reduceAdd, Int.reduceSub]
  refine anew_intro fun q q1 q2 q3 => ?_
  have q0 := q1
  try simp only [upd_none] at q0
  simp (disch := first | omega | assumption | (simp only [tab_len, List.length_cons, List.length_append, List.length_set, List.length_nil, List.length_replicate, List.length_map, one_int, one_bool, one_slice, one_upd, one_lay, one_if, one_c, one_by8, one_row, one_sq, one_grp, nums_len, one_alg, one_num, one_boolF, one_pair, one_zP] <;> omega)) only [go_sem, ↓reduceIte, Nat.reduceEqDiff, Int.reduceAdd, Int.reduceSub]
  refine run_drawn [(0, []), (1, []), (3, []), (4, []), (7, []), (2, [9]), (5, [9]), (6, []), (8, [9]), (9, []), (10, []), (11, [])] (by kernel_rfl) ?_
  simp (disch := first | omega | assumption | (simp only [tab_len, List.length_cons, List.length_append, List.length_set, List.length_nil, List.length_replicate, List.length_map, one_int, one_bool, one_slice, one_upd, one_lay, one_if, one_c, one_by8, one_row, one_sq, one_grp, nums_len, one_alg, one_num, one_boolF, one_pair, one_zP] <;> omega)) only [go_sem, ↓reduceIte, Nat.reduceEqDiff, Int.reduceAdd, Int.reduceSub]
  refine prep_alloc rfl rfl z32 ?_
  try simp (disch := first | omega | assumption | (simp only [tab_len, List.length_cons, List.length_append, List.length_set, List.length_nil, List.length_replicate, List.length_map, one_int, one_bool, one_slice, one_upd, one_lay, one_if, one_c, one_by8, one_row, one_sq, one_grp, nums_len, one_alg, one_num, one_boolF, one_pair, one_zP] <;> omega)) only [go_sem, ↓reduceIte, Nat.reduceEqDiff, Int.reduceAdd, Int.reduceSub]
  refine callB0_val (sp_classAlgebra _ p hp G n hn hg) fun ψ1 hψ1 => ?_
  simp (disch := first | omega | assumption | (simp only [tab_len, List.length_cons, List.length_append, List.length_set, List.length_nil, List.length_replicate, List.length_map, one_int, one_bool, one_slice, one_upd, one_lay, one_if, one_c, one_by8, one_row, one_sq, one_grp, nums_len, one_alg, one_num, one_boolF, one_pair, one_zP] <;> omega)) only [go_sem, ↓reduceIte, Nat.reduceEqDiff, Int.reduceAdd, Int.reduceSub]
  refine prep_alloc rfl rfl z32 ?_
  try simp (disch := first | omega | assumption | (simp only [tab_len, List.length_cons, List.length_append, List.length_set, List.length_nil, List.length_replicate, List.length_map, one_int, one_bool, one_slice, one_upd, one_lay, one_if, one_c, one_by8, one_row, one_sq, one_grp, nums_len, one_alg, one_num, one_boolF, one_pair, one_zP] <;> omega)) only [go_sem, ↓reduceIte, Nat.reduceEqDiff, Int.reduceAdd, Int.reduceSub]
  refine callB0_gives (sp_algebra _ p G n hn hg) ?_
  simp (disch := first | omega | assumption | (simp only [tab_len, List.length_cons, List.length_append, List.length_set, List.length_nil, List.length_replicate, List.length_map, one_int, one_bool, one_slice, one_upd, one_lay, one_if, one_c, one_by8, one_row, one_sq, one_grp, nums_len, one_alg, one_num, one_boolF, one_pair, one_zP] <;> omega)) only [go_sem, ↓reduceIte, Nat.reduceEqDiff, Int.reduceAdd, Int.reduceSub, pair_made]
  refine prep_alloc rfl rfl z32 ?_
  try simp (disch := first | omega | assumption | (simp only [tab_len, List.length_cons, List.length_append, List.length_set, List.length_nil, List.length_replicate, List.length_map, one_int, one_bool, one_slice, one_upd, one_lay, one_if, one_c, one_by8, one_row, one_sq, one_grp, nums_len, one_alg, one_num, one_boolF, one_pair, one_zP] <;> omega)) only [go_sem, ↓reduceIte, Nat.reduceEqDiff, Int.reduceAdd, Int.reduceSub]
  refine callB0_lists (sp_classes _ G n hn hg) ?_
  rintro v ψ0 - ⟨lq, lc, cells, lt, rfl, hlq, hin⟩
  simp (disch := first | omega | assumption | (simp only [tab_len, List.length_cons, List.length_append, List.length_set, List.length_nil, List.length_replicate, List.length_map, one_int, one_bool, one_slice, one_upd, one_lay, one_if, one_c, one_by8, one_row, one_sq, one_grp, nums_len, one_alg, one_num, one_boolF, one_pair, one_zP] <;> omega)) only [go_sem, ↓reduceIte, Nat.reduceEqDiff, Int.reduceAdd, Int.reduceSub]
  refine anew_intro fun s s1 s2 s3 => ?_
  have s0 := s1
  try simp only [upd_none] at s0
  simp (disch := first | omega | assumption | (simp only [tab_len, List.length_cons, List.length_append, List.length_set, List.length_nil, List.length_replicate, List.length_map, one_int, one_bool, one_slice, one_upd, one_lay, one_if, one_c, one_by8, one_row, one_sq, one_grp, nums_len, one_alg, one_num, one_boolF, one_pair, one_zP] <;> omega)) only [go_sem, ↓reduceIte, Nat.reduceEqDiff, Int.reduceAdd, Int.reduceSub]
  have hlt : n % p < p := Nat.mod_lt _ (by omega)
  have hnp : (n : Int) % (p : Int) = ((n % p : Nat) : Int) := by simp
  have hpz : ¬ (p : Int) = 0 := by omega
  simp (disch := first | omega | assumption | (simp only [tab_len, List.length_cons, List.length_append, List.length_set, List.length_nil, List.length_replicate, List.length_map, one_int, one_bool, one_slice, one_upd, one_lay, one_if, one_c, one_by8, one_row, one_sq, one_grp, nums_len, one_alg, one_num, one_boolF, one_pair, one_zP] <;> omega)) only [go_sem, ↓reduceIte, Nat.reduceEqDiff, Int.reduceAdd, Int.reduceSub, grpF_0, hn, s_tmod]
  rw [hnp]
  refine callB_gives (sp_inverseP _ p (n % p) (by omega) hlt) ?_
  have hfl := firstInv_le p (n % p)
  have hb8 : (UInt8.ofNat (firstInv p (n % p))).toNat = firstInv p (n % p) := by rw [UInt8.toNat_ofNat']; omega
  simp (disch := first | omega | assumption | (simp only [tab_len, List.length_cons, List.length_append, List.length_set, List.length_nil, List.length_replicate, List.length_map, one_int, one_bool, one_slice, one_upd, one_lay, one_if, one_c, one_by8, one_row, one_sq, one_grp, nums_len, one_alg, one_num, one_boolF, one_pair, one_zP] <;> omega)) only [go_sem, ↓reduceIte, Nat.reduceEqDiff, Int.reduceAdd, Int.reduceSub]
  rw [show (Value.int .u8 ((firstInv p (n % p) : Nat) : Int)) = by8 (UInt8.ofNat (firstInv p (n % p))) from by show _ = Value.int .u8 ((UInt8.ofNat (firstInv p (n % p))).toNat : Int); rw [hb8], pair_form]
  generalize hM : (upd _ _ _ : Mem) = M0
  have hq : Has M0 q 32 (tab 484 zP) := by rw [← hM]; (simp (disch := first | omega | assumption | (simp only [tab_len, List.length_cons, List.length_append, List.length_set, List.length_nil, List.length_replicate, List.length_map, one_int, one_bool, one_slice, one_upd, one_lay, one_if, one_c, one_by8, one_row, one_sq, one_grp, nums_len, one_alg, one_num, one_boolF, one_pair, one_zP] <;> omega)) only [go_sem, ↓reduceIte, Nat.reduceEqDiff, Int.reduceAdd, Int.reduceSub, has_ne, has_same, true_and]); try rfl
  have hs : Has M0 s 32 (tab 484 (pairF ⟨cAlg p G n (upd unitF 0 (UInt8.ofNat (firstInv p (n % p)))), gAlg p G n, zT (clsUp G n n) 0 0⟩)) := by rw [← hM, zT_0, has_same]; exact ⟨rfl, rfl⟩
  clear hM
  have hN := clsUp_len G n n
  have hl6 := fun k hk => cls_len (G := G) (n := n) k hk
  have hltx := fun k x hk hx => cls_lt (G := G) (n := n) k x hk hx
  refine vc_up (clsUp G n n).length 0 (fun i env M ψ => ψ0 = ψ ∧ env 7 = .int .i64 i ∧ Has M q 32 (tab 484 zP) ∧ Has M s 32 (tab 484 (pairF ⟨cAlg p G n (upd unitF 0 (UInt8.ofNat (firstInv p (n % p)))), gAlg p G n, zT (clsUp G n n) i 0⟩))) (by omega) ?_ ?_
  · refine ⟨rfl, ?_, hq, hs⟩
    simp (disch := first | omega | assumption | (simp only [tab_len, List.length_cons, List.length_append, List.length_set, List.length_nil, List.length_replicate, List.length_map, one_int, one_bool, one_slice, one_upd, one_lay, one_if, one_c, one_by8, one_row, one_sq, one_grp, nums_len, one_alg, one_num, one_boolF, one_pair, one_zP] <;> omega)) only [go_sem, ↓reduceIte, Nat.reduceEqDiff, Int.reduceAdd, Int.reduceSub]
  · rintro i env M ψ hi hf - ap ⟨rfl, e7, ⟨tq, hq⟩, ts, hs⟩ K hK
    have e4 := hf 4 (by kernel_rfl)
    have e5 := hf 5 (by kernel_rfl)
    have e6 := hf 6 (by kernel_rfl)
    simp (disch := first | omega | assumption | (simp only [tab_len, List.length_cons, List.length_append, List.length_set, List.length_nil, List.length_replicate, List.length_map, one_int, one_bool, one_slice, one_upd, one_lay, one_if, one_c, one_by8, one_row, one_sq, one_grp, nums_len, one_alg, one_num, one_boolF, one_pair, one_zP] <;> omega)) only [go_sem, ↓reduceIte, Nat.reduceEqDiff, Int.reduceAdd, Int.reduceSub] at e4
    simp (disch := first | omega | assumption | (simp only [tab_len, List.length_cons, List.length_append, List.length_set, List.length_nil, List.length_replicate, List.length_map, one_int, one_bool, one_slice, one_upd, one_lay, one_if, one_c, one_by8, one_row, one_sq, one_grp, nums_len, one_alg, one_num, one_boolF, one_pair, one_zP] <;> omega)) only [go_sem, ↓reduceIte, Nat.reduceEqDiff, Int.reduceAdd, Int.reduceSub] at e5
    simp (disch := first | omega | assumption | (simp only [tab_len, List.length_cons, List.length_append, List.length_set, List.length_nil, List.length_replicate, List.length_map, one_int, one_bool, one_slice, one_upd, one_lay, one_if, one_c, one_by8, one_row, one_sq, one_grp, nums_len, one_alg, one_num, one_boolF, one_pair, one_zP] <;> omega)) only [go_sem, ↓reduceIte, Nat.reduceEqDiff, Int.reduceAdd, Int.reduceSub] at e6
    simp (disch := first | omega | assumption | (simp only [tab_len, List.length_cons, List.length_append, List.length_set, List.length_nil, List.length_replicate, List.length_map, one_int, one_bool, one_slice, one_upd, one_lay, one_if, one_c, one_by8, one_row, one_sq, one_grp, nums_len, one_alg, one_num, one_boolF, one_pair, one_zP] <;> omega)) only [go_sem, ↓reduceIte, Nat.reduceEqDiff, Int.reduceAdd, Int.reduceSub, e6, e7]
    refine ifB_dec (fun h => ?_) (fun h => ?_)
    · obtain ⟨bi, ci, fi, ti, ni, i1, i2, i3, i4⟩ := hin.get (show i < (clsUp G n n).length by omega)
      have hMl := (ap lq _).2 hlq
      have li := hl6 i (by omega)
      simp (disch := first | omega | assumption | (simp only [tab_len, List.length_cons, List.length_append, List.length_set, List.length_nil, List.length_replicate, List.length_map, one_int, one_bool, one_slice, one_upd, one_lay, one_if, one_c, one_by8, one_row, one_sq, one_grp, nums_len, one_alg, one_num, one_boolF, one_pair, one_zP] <;> omega)) only [go_sem, ↓reduceIte, Nat.reduceEqDiff, Int.reduceAdd, Int.reduceSub]
      refine anew_intro fun r r1 r2 r3 => ?_
      have r0 := r1
      try simp only [upd_none] at r0
      simp (disch := first | omega | assumption | (simp only [tab_len, List.length_cons, List.length_append, List.length_set, List.length_nil, List.length_replicate, List.length_map, one_int, one_bool, one_slice, one_upd, one_lay, one_if, one_c, one_by8, one_row, one_sq, one_grp, nums_len, one_alg, one_num, one_boolF, one_pair, one_zP] <;> omega)) only [go_sem, ↓reduceIte, Nat.reduceEqDiff, Int.reduceAdd, Int.reduceSub]
      rw [s_putTabA _ _ _ _ _ _ _ (one_c rfl)]
      simp (disch := first | omega | assumption | (simp only [tab_len, List.length_cons, List.length_append, List.length_set, List.length_nil, List.length_replicate, List.length_map, one_int, one_bool, one_slice, one_upd, one_lay, one_if, one_c, one_by8, one_row, one_sq, one_grp, nums_len, one_alg, one_num, one_boolF, one_pair, one_zP] <;> omega)) only [go_sem, ↓reduceIte, Nat.reduceEqDiff, Int.reduceAdd, Int.reduceSub]
      have hsr : s ≠ r := fun e => by rw [e, r1] at hs; cases hs
      have hqr : q ≠ r := fun e => by rw [e, r1] at hq; cases hq
      refine vc_up ((clsUp G n n).getD i []).length 0 (fun j env M ψ => ψ0 = ψ ∧ env 9 = .int .i64 j ∧ Has M q 32 (tab 484 zP) ∧ Has M s 32 (tab 484 (pairF ⟨cAlg p G n (upd unitF 0 (UInt8.ofNat (firstInv p (n % p)))), gAlg p G n, zT (clsUp G n n) i 0⟩)) ∧ Has M r 27 (tab 6 (rowF fun b => zT (clsUp G n n) i j i b))) (by omega) ?_ ?_
      · refine ⟨rfl, ?_, ?_, ?_, ?_⟩
        · simp (disch := first | omega | assumption | (simp only [tab_len, List.length_cons, List.length_append, List.length_set, List.length_nil, List.length_replicate, List.length_map, one_int, one_bool, one_slice, one_upd, one_lay, one_if, one_c, one_by8, one_row, one_sq, one_grp, nums_len, one_alg, one_num, one_boolF, one_pair, one_zP] <;> omega)) only [go_sem, ↓reduceIte, Nat.reduceEqDiff, Int.reduceAdd, Int.reduceSub]
        · rw [has_ne _ _ _ _ _ hqr, has_ne _ _ _ _ _ hqr]; exact ⟨_, hq⟩
        · rw [has_ne _ _ _ _ _ hsr, has_ne _ _ _ _ _ hsr]; exact ⟨_, hs⟩
        · rw [has_same]; refine ⟨rfl, tab_eq fun k hk => ?_⟩
          unfold rowF zT
          show _ = by8 (if _ then 1 else 0)
          rw [if_neg (by rintro (⟨h, _⟩ | ⟨_, h⟩); omega; simp at h)]; rfl
      · rintro j env2 M ψ hj hf2 - ap2 ⟨rfl, e9, ⟨tq, hq⟩, ⟨ts, hs⟩, tr, hr⟩ K2 hK2
        have u4 := hf2 4 (by kernel_rfl)
        have u5 := hf2 5 (by kernel_rfl)
        have u6 := hf2 6 (by kernel_rfl)
        have u7 := hf2 7 (by kernel_rfl)
        have u8 := hf2 8 (by kernel_rfl)
        simp (disch := first | omega | assumption | (simp only [tab_len, List.length_cons, List.length_append, List.length_set, List.length_nil, List.length_replicate, List.length_map, one_int, one_bool, one_slice, one_upd, one_lay, one_if, one_c, one_by8, one_row, one_sq, one_grp, nums_len, one_alg, one_num, one_boolF, one_pair, one_zP] <;> omega)) only [go_sem, ↓reduceIte, Nat.reduceEqDiff, Int.reduceAdd, Int.reduceSub, e5, e6, e7] at u4
        simp (disch := first | omega | assumption | (simp only [tab_len, List.length_cons, List.length_append, List.length_set, List.length_nil, List.length_replicate, List.length_map, one_int, one_bool, one_slice, one_upd, one_lay, one_if, one_c, one_by8, one_row, one_sq, one_grp, nums_len, one_alg, one_num, one_boolF, one_pair, one_zP] <;> omega)) only [go_sem, ↓reduceIte, Nat.reduceEqDiff, Int.reduceAdd, Int.reduceSub, e5, e6, e7] at u5
        simp (disch := first | omega | assumption | (simp only [tab_len, List.length_cons, List.length_append, List.length_set, List.length_nil, List.length_replicate, List.length_map, one_int, one_bool, one_slice, one_upd, one_lay, one_if, one_c, one_by8, one_row, one_sq, one_grp, nums_len, one_alg, one_num, one_boolF, one_pair, one_zP] <;> omega)) only [go_sem, ↓reduceIte, Nat.reduceEqDiff, Int.reduceAdd, Int.reduceSub, e5, e6, e7] at u6
        simp (disch := first | omega | assumption | (simp only [tab_len, List.length_cons, List.length_append, List.length_set, List.length_nil, List.length_replicate, List.length_map, one_int, one_bool, one_slice, one_upd, one_lay, one_if, one_c, one_by8, one_row, one_sq, one_grp, nums_len, one_alg, one_num, one_boolF, one_pair, one_zP] <;> omega)) only [go_sem, ↓reduceIte, Nat.reduceEqDiff, Int.reduceAdd, Int.reduceSub, e5, e6, e7] at u7
        simp (disch := first | omega | assumption | (simp only [tab_len, List.length_cons, List.length_append, List.length_set, List.length_nil, List.length_replicate, List.length_map, one_int, one_bool, one_slice, one_upd, one_lay, one_if, one_c, one_by8, one_row, one_sq, one_grp, nums_len, one_alg, one_num, one_boolF, one_pair, one_zP] <;> omega)) only [go_sem, ↓reduceIte, Nat.reduceEqDiff, Int.reduceAdd, Int.reduceSub, e5, e6, e7] at u8
        have hMl := (ap2 lq _).2 hlq
        have hMi := (ap2 bi _).2 i2
        simp (disch := first | omega | assumption | (simp only [tab_len, List.length_cons, List.length_append, List.length_set, List.length_nil, List.length_replicate, List.length_map, one_int, one_bool, one_slice, one_upd, one_lay, one_if, one_c, one_by8, one_row, one_sq, one_grp, nums_len, one_alg, one_num, one_boolF, one_pair, one_zP] <;> omega)) only [go_sem, ↓reduceIte, Nat.reduceEqDiff, Int.reduceAdd, Int.reduceSub, u6, u7, e9, hlq, hMl, i1]
        refine ifB_dec (fun h2 => ?_) (fun h2 => ?_)
        · have hx := hltx i j (by omega) (by omega)
          simp (disch := first | omega | assumption | (simp only [tab_len, List.length_cons, List.length_append, List.length_set, List.length_nil, List.length_replicate, List.length_map, one_int, one_bool, one_slice, one_upd, one_lay, one_if, one_c, one_by8, one_row, one_sq, one_grp, nums_len, one_alg, one_num, one_boolF, one_pair, one_zP] <;> omega)) only [go_sem, ↓reduceIte, Nat.reduceEqDiff, Int.reduceAdd, Int.reduceSub, u6, u7, u8, e9, hlq, hMl, i1, i2, hMi, i4, hr]
          refine hK2 _ _ _ (by omega) (Up.here ⟨rfl, ?_, ?_, ?_, ?_⟩)
          · simp (disch := first | omega | assumption | (simp only [tab_len, List.length_cons, List.length_append, List.length_set, List.length_nil, List.length_replicate, List.length_map, one_int, one_bool, one_slice, one_upd, one_lay, one_if, one_c, one_by8, one_row, one_sq, one_grp, nums_len, one_alg, one_num, one_boolF, one_pair, one_zP] <;> omega)) only [go_sem, ↓reduceIte, Nat.reduceEqDiff, Int.reduceAdd, Int.reduceSub]
          · rw [has_ne _ _ _ _ _ hqr]; exact ⟨_, hq⟩
          · rw [has_ne _ _ _ _ _ hsr]; exact ⟨_, hs⟩
          · rw [has_same]; refine ⟨rfl, tab_eq fun k hk => ?_⟩
            have := congrFun (congrFun (zT_set (clsUp G n n) i j (by omega)) i) k
            unfold set2 at this
            show upd (rowF fun b => zT (clsUp G n n) i j i b) _ _ k = by8 (zT (clsUp G n n) i (j + 1) i k)
            rw [← this]
            by_cases hk : k = ((clsUp G n n).getD i []).getD j 0
            · subst hk; rw [upd_same, if_pos ⟨rfl, rfl⟩]; rfl
            · rw [upd_ne hk, if_neg fun h => hk h.2]; rfl
        · have : j = ((clsUp G n n).getD i []).length := by omega
          subst this
          simp (disch := first | omega | assumption | (simp only [tab_len, List.length_cons, List.length_append, List.length_set, List.length_nil, List.length_replicate, List.length_map, one_int, one_bool, one_slice, one_upd, one_lay, one_if, one_c, one_by8, one_row, one_sq, one_grp, nums_len, one_alg, one_num, one_boolF, one_pair, one_zP] <;> omega)) only [go_sem, ↓reduceIte, Nat.reduceEqDiff, Int.reduceAdd, Int.reduceSub, u5, u7, u8, hr, hs]
          rw [pair_row _ _ _ (by omega)]
          simp (disch := first | omega | assumption | (simp only [tab_len, List.length_cons, List.length_append, List.length_set, List.length_nil, List.length_replicate, List.length_map, one_int, one_bool, one_slice, one_upd, one_lay, one_if, one_c, one_by8, one_row, one_sq, one_grp, nums_len, one_alg, one_num, one_boolF, one_pair, one_zP] <;> omega)) only [go_sem, ↓reduceIte, Nat.reduceEqDiff, Int.reduceAdd, Int.reduceSub, u7]
          refine hK _ _ _ (by omega) (Up.here ⟨rfl, ?_, ?_, ?_⟩)
          · simp (disch := first | omega | assumption | (simp only [tab_len, List.length_cons, List.length_append, List.length_set, List.length_nil, List.length_replicate, List.length_map, one_int, one_bool, one_slice, one_upd, one_lay, one_if, one_c, one_by8, one_row, one_sq, one_grp, nums_len, one_alg, one_num, one_boolF, one_pair, one_zP] <;> omega)) only [go_sem, ↓reduceIte, Nat.reduceEqDiff, Int.reduceAdd, Int.reduceSub]
          · rw [has_ne _ _ _ _ _ (by omega)]; exact ⟨_, hq⟩
          · rw [has_same]; refine ⟨rfl, ?_⟩
            have : (fun a b => if a = i then zT (clsUp G n n) i ((clsUp G n n).getD i []).length i b else zT (clsUp G n n) i 0 a b) = zT (clsUp G n n) (i + 1) 0 := by
              rw [← zT_row]
              funext a b
              by_cases ha : a = i
              · subst ha; rw [if_pos rfl]
              · rw [if_neg ha]; unfold zT; congr 1; apply propext; simp [ha]
            rw [this]
    · have : i = (clsUp G n n).length := by omega
      subst this
      simp (disch := first | omega | assumption | (simp only [tab_len, List.length_cons, List.length_append, List.length_set, List.length_nil, List.length_replicate, List.length_map, one_int, one_bool, one_slice, one_upd, one_lay, one_if, one_c, one_by8, one_row, one_sq, one_grp, nums_len, one_alg, one_num, one_boolF, one_pair, one_zP] <;> omega)) only [go_sem, ↓reduceIte, Nat.reduceEqDiff, Int.reduceAdd, Int.reduceSub, e4, e5, hq, hs]
      refine Up.drop (Le.none _) ⟨rfl, rfl⟩
end Go.Proofs.Ytbenllhoofoahaa

