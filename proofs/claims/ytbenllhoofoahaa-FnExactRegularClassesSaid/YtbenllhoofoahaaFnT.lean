/- GroupPair (impl). -/
import Derived.Test.YtbenllhoofoahaaFnS
namespace Go.Proofs.Ytbenllhoofoahaa
set_option linter.unusedSimpArgs false
set_option linter.unusedVariables false
set_option maxRecDepth 4000
open Go Go.Vc
theorem callB_val {P : Program} {κ M ψ : Mem} {f : FuncId} {args : Array Value} {V : Value} {F : Value → Mem → Mem → Prop} (h : CallsX P f args none' (all κ ψ M) (fun v M ψ => v = V ∧ M = none'))
    (hk : ∀ ψ', Le ψ ψ' → F V M ψ') : @callB P κ (.func (.func f) #[] #[]) args ⟨F⟩ M ψ := by
  refine callB_own h ?_
  rintro v M' ψ' ⟨rfl, rfl⟩ hap
  rw [over_none']
  exact hk _ (Le.overL _ _)
def zP (k : Nat) : Value := if k < 2 then .int .i64 0 else if k < 224 then .int .u8 0 else if k < 226 then .int .i64 0 else .int .u8 0
theorem one_zP (n) : One n zP := fun k => by unfold zP; (repeat' split) <;> rfl
theorem zP_made : (tab 484 fun k => if k < 2 then Value.int .i64 0 else if k < 224 then Value.int .u8 0 else if k < 226 then Value.int .i64 0 else Value.int .u8 0) = tab 484 zP := rfl
def pairOf (p n : Nat) (G : Grp) : Pr := ⟨cAlg p G n (upd unitF 0 (UInt8.ofNat (firstInv p (n % p)))), gAlg p G n, zT (clsUp G n n) (clsUp G n n).length 0⟩
noncomputable def gpV (p : Int) (G : Grp) : Value := if code p G = 0 then (if G.n % p = 0 then .tuple #[.agg (tab 484 zP).toArray, i64 5] else .tuple #[.agg (tab 484 (pairF (pairOf p.toNat G.n.toNat G))).toArray, i64 0]) else .tuple #[.agg (tab 484 zP).toArray, i64 (code p G)]
theorem code_zero {p : Int} {G : Grp} (h : code p G = 0) : IsGr G ∧ IsP p := by
  unfold code at h
  by_cases h1 : dec (IsGr G) = false
  · rw [if_pos h1] at h; omega
  · rw [if_neg h1] at h
    by_cases h2 : dec (IsP p) = false
    · rw [if_pos h2] at h; omega
    · exact ⟨dec_iff.1 (by simpa using h1), dec_iff.1 (by simpa using h2)⟩
theorem fn_groupPair (κ : Mem) (p : Int) (G : Grp) : CallsX Try.prog 7 #[i64 p, .agg (tab 37 (grpF G)).toArray] none' κ (fun v M ψ => v = gpV p G ∧ M = none') := by
  refine run_of (rs := [.cell 4 32, .tmp 5]) (args := [i64 p, .agg (tab 37 (grpF G)).toArray]) mixed Try.func7 rfl ok7 (by kernel_rfl) (by show 2 ≤ _; decide) rfl ?_
  simp (disch := first | omega | assumption | (simp only [tab_len, List.length_cons, List.length_append, List.length_set, List.length_nil, List.length_replicate, List.length_map, one_int, one_bool, one_slice, one_upd, one_lay, one_if, one_c, one_by8, one_row, one_sq, one_grp, nums_len, one_alg, one_num, one_boolF, one_pair, one_zP] <;> omega)) only [go_sem, ↓reduceIte, Nat.reduceEqDiff, Int.reduceAdd, Int.reduceSub]
  refine anew_intro fun g g1 g2 g3 => ?_
  have g0 := g1
  try simp only [upd_none] at g0
  simp (disch := first | omega | assumption | (simp only [tab_len, List.length_cons, List.length_append, List.length_set, List.length_nil, List.length_replicate, List.length_map, one_int, one_bool, one_slice, one_upd, one_lay, one_if, one_c, one_by8, one_row, one_sq, one_grp, nums_len, one_alg, one_num, one_boolF, one_pair, one_zP] <;> omega)) only [go_sem, ↓reduceIte, Nat.reduceEqDiff, Int.reduceAdd, Int.reduceSub]
  refine anew_intro fun q q1 q2 q3 => ?_
  have q0 := q1
  try simp only [upd_none] at q0
  simp (disch := first | omega | assumption | (simp only [tab_len, List.length_cons, List.length_append, List.length_set, List.length_nil, List.length_replicate, List.length_map, one_int, one_bool, one_slice, one_upd, one_lay, one_if, one_c, one_by8, one_row, one_sq, one_grp, nums_len, one_alg, one_num, one_boolF, one_pair, one_zP] <;> omega)) only [go_sem, ↓reduceIte, Nat.reduceEqDiff, Int.reduceAdd, Int.reduceSub]
  refine callB_gives (fn_primed _ p G) ?_
  simp (disch := first | omega | assumption | (simp only [tab_len, List.length_cons, List.length_append, List.length_set, List.length_nil, List.length_replicate, List.length_map, one_int, one_bool, one_slice, one_upd, one_lay, one_if, one_c, one_by8, one_row, one_sq, one_grp, nums_len, one_alg, one_num, one_boolF, one_pair, one_zP] <;> omega)) only [go_sem, ↓reduceIte, Nat.reduceEqDiff, Int.reduceAdd, Int.reduceSub]
  refine ifB_ndec (fun hc => ?_) (fun hc => ?_)
  · simp (disch := first | omega | assumption | (simp only [tab_len, List.length_cons, List.length_append, List.length_set, List.length_nil, List.length_replicate, List.length_map, one_int, one_bool, one_slice, one_upd, one_lay, one_if, one_c, one_by8, one_row, one_sq, one_grp, nums_len, one_alg, one_num, one_boolF, one_pair, one_zP] <;> omega)) only [go_sem, ↓reduceIte, Nat.reduceEqDiff, Int.reduceAdd, Int.reduceSub, zP_made]
    refine Up.drop (Le.none _) ⟨?_, rfl⟩
    unfold gpV; rw [if_neg hc]
  · obtain ⟨⟨n, hn, hg⟩, hP⟩ := code_zero hc
    have h6 := hg.1
    have hp : 2 ≤ p ∧ p ≤ 13 := by simp only [IsP, List.mem_cons, List.not_mem_nil, or_false] at hP; omega
    obtain ⟨p, rfl⟩ : ∃ k : Nat, p = k := ⟨p.toNat, by omega⟩
    have hpz : ¬ (p : Int) = 0 := by omega
    simp (disch := first | omega | assumption | (simp only [tab_len, List.length_cons, List.length_append, List.length_set, List.length_nil, List.length_replicate, List.length_map, one_int, one_bool, one_slice, one_upd, one_lay, one_if, one_c, one_by8, one_row, one_sq, one_grp, nums_len, one_alg, one_num, one_boolF, one_pair, one_zP] <;> omega)) only [go_sem, ↓reduceIte, Nat.reduceEqDiff, Int.reduceAdd, Int.reduceSub, grpF_0, hn, s_tmod]
    refine ifB_dec (fun hz => ?_) (fun hz => ?_)
    · simp (disch := first | omega | assumption | (simp only [tab_len, List.length_cons, List.length_append, List.length_set, List.length_nil, List.length_replicate, List.length_map, one_int, one_bool, one_slice, one_upd, one_lay, one_if, one_c, one_by8, one_row, one_sq, one_grp, nums_len, one_alg, one_num, one_boolF, one_pair, one_zP] <;> omega)) only [go_sem, ↓reduceIte, Nat.reduceEqDiff, Int.reduceAdd, Int.reduceSub, zP_made]
      refine Up.drop (Le.none _) ⟨?_, rfl⟩
      unfold gpV; rw [if_pos hc, if_pos (by rw [hn]; exact hz)]
    · simp (disch := first | omega | assumption | (simp only [tab_len, List.length_cons, List.length_append, List.length_set, List.length_nil, List.length_replicate, List.length_map, one_int, one_bool, one_slice, one_upd, one_lay, one_if, one_c, one_by8, one_row, one_sq, one_grp, nums_len, one_alg, one_num, one_boolF, one_pair, one_zP] <;> omega)) only [go_sem, ↓reduceIte, Nat.reduceEqDiff, Int.reduceAdd, Int.reduceSub]
      have hgr : ∀ {ψ : Mem} {e : Option Ent}, Has (all κ ψ (upd (upd none' g (some ⟨35, tab 37 (grpF G), (tab 37 (grpF G)).length⟩)) q e)) g 35 (tab 37 (grpF G)) := fun {ψ e} => has_own (by rw [has_ne _ _ _ _ _ (by omega), has_same]; exact ⟨rfl, rfl⟩)
      refine callB_val (fn_classAlgebra _ p (by omega) G n g 35 hgr hn hg) fun ψ1 hψ1 => ?_
      simp (disch := first | omega | assumption | (simp only [tab_len, List.length_cons, List.length_append, List.length_set, List.length_nil, List.length_replicate, List.length_map, one_int, one_bool, one_slice, one_upd, one_lay, one_if, one_c, one_by8, one_row, one_sq, one_grp, nums_len, one_alg, one_num, one_boolF, one_pair, one_zP] <;> omega)) only [go_sem, ↓reduceIte, Nat.reduceEqDiff, Int.reduceAdd, Int.reduceSub]
      refine callB_gives (fn_algebra _ p G n g 35 hgr hn hg) ?_
      simp (disch := first | omega | assumption | (simp only [tab_len, List.length_cons, List.length_append, List.length_set, List.length_nil, List.length_replicate, List.length_map, one_int, one_bool, one_slice, one_upd, one_lay, one_if, one_c, one_by8, one_row, one_sq, one_grp, nums_len, one_alg, one_num, one_boolF, one_pair, one_zP] <;> omega)) only [go_sem, ↓reduceIte, Nat.reduceEqDiff, Int.reduceAdd, Int.reduceSub, pair_made]
      refine anew_intro fun s s1 s2 s3 => ?_
      have s0 := s1
      try simp only [upd_none] at s0
      simp (disch := first | omega | assumption | (simp only [tab_len, List.length_cons, List.length_append, List.length_set, List.length_nil, List.length_replicate, List.length_map, one_int, one_bool, one_slice, one_upd, one_lay, one_if, one_c, one_by8, one_row, one_sq, one_grp, nums_len, one_alg, one_num, one_boolF, one_pair, one_zP] <;> omega)) only [go_sem, ↓reduceIte, Nat.reduceEqDiff, Int.reduceAdd, Int.reduceSub, grpF_0, hn, s_tmod]
      have hnp : (n : Int) % (p : Int) = ((n % p : Nat) : Int) := by simp
      have hlt : n % p < p := Nat.mod_lt _ (by omega)
      have hn0 : 0 < n % p := by
        rcases Nat.eq_zero_or_pos (n % p) with h0 | h0
        · rw [hnp, h0] at hz; exact (hz rfl).elim
        · exact h0
      rw [hnp]
      refine callB_gives (fn_inverseP _ (n % p) p (by omega) hlt) ?_
      have hpv : pw (n % p) p (p - 2) = firstInv p (n % p) := inv_same p (by simp only [IsP, List.mem_cons, List.not_mem_nil, or_false] at hP; omega) _ hlt hn0
      have hpl := pw_lt (n := n % p) (p := p) (by omega) (p - 2)
      have hb8 : (UInt8.ofNat (firstInv p (n % p))).toNat = firstInv p (n % p) := by rw [UInt8.toNat_ofNat']; omega
      rw [hpv] at hpl ⊢
      simp (disch := first | omega | assumption | (simp only [tab_len, List.length_cons, List.length_append, List.length_set, List.length_nil, List.length_replicate, List.length_map, one_int, one_bool, one_slice, one_upd, one_lay, one_if, one_c, one_by8, one_row, one_sq, one_grp, nums_len, one_alg, one_num, one_boolF, one_pair, one_zP] <;> omega)) only [go_sem, ↓reduceIte, Nat.reduceEqDiff, Int.reduceAdd, Int.reduceSub]
      rw [show (Value.int .u8 ((firstInv p (n % p) : Nat) : Int)) = by8 (UInt8.ofNat (firstInv p (n % p))) from by show _ = Value.int .u8 ((UInt8.ofNat (firstInv p (n % p))).toNat : Int); rw [hb8], pair_form]
      generalize hM : (upd _ _ _ : Mem) = M0
      have hgr2 : Has M0 g 35 (tab 37 (grpF G)) := by rw [← hM]; (simp (disch := first | omega | assumption | (simp only [tab_len, List.length_cons, List.length_append, List.length_set, List.length_nil, List.length_replicate, List.length_map, one_int, one_bool, one_slice, one_upd, one_lay, one_if, one_c, one_by8, one_row, one_sq, one_grp, nums_len, one_alg, one_num, one_boolF, one_pair, one_zP] <;> omega)) only [go_sem, ↓reduceIte, Nat.reduceEqDiff, Int.reduceAdd, Int.reduceSub, has_ne, has_same, true_and])
      have hq : Has M0 q 32 (tab 484 zP) := by rw [← hM]; (simp (disch := first | omega | assumption | (simp only [tab_len, List.length_cons, List.length_append, List.length_set, List.length_nil, List.length_replicate, List.length_map, one_int, one_bool, one_slice, one_upd, one_lay, one_if, one_c, one_by8, one_row, one_sq, one_grp, nums_len, one_alg, one_num, one_boolF, one_pair, one_zP] <;> omega)) only [go_sem, ↓reduceIte, Nat.reduceEqDiff, Int.reduceAdd, Int.reduceSub, has_ne, has_same, true_and]); try rfl
      have hs : Has M0 s 32 (tab 484 (pairF ⟨cAlg p G n (upd unitF 0 (UInt8.ofNat (firstInv p (n % p)))), gAlg p G n, zT (clsUp G n n) 0 0⟩)) := by rw [← hM, zT_0, has_same]; exact ⟨rfl, rfl⟩
      clear hM
      refine callB_lists (fn_classes _ G n g 35 (has_own hgr2) hn hg) ?_
      rintro v ψ0 - ⟨lq, lc, cells, lt, rfl, hlq, hin⟩
      simp (disch := first | omega | assumption | (simp only [tab_len, List.length_cons, List.length_append, List.length_set, List.length_nil, List.length_replicate, List.length_map, one_int, one_bool, one_slice, one_upd, one_lay, one_if, one_c, one_by8, one_row, one_sq, one_grp, nums_len, one_alg, one_num, one_boolF, one_pair, one_zP] <;> omega)) only [go_sem, ↓reduceIte, Nat.reduceEqDiff, Int.reduceAdd, Int.reduceSub]
      have hN := clsUp_len G n n
      have hl6 := fun k hk => cls_len (G := G) (n := n) k hk
      have hlt := fun k x hk hx => cls_lt (G := G) (n := n) k x hk hx
      refine vc_up (clsUp G n n).length 0 (fun i env M ψ => ψ0 = ψ ∧ env 42 = .int .i64 i ∧ Has M q 32 (tab 484 zP) ∧ Has M s 32 (tab 484 (pairF ⟨cAlg p G n (upd unitF 0 (UInt8.ofNat (firstInv p (n % p)))), gAlg p G n, zT (clsUp G n n) i 0⟩))) (by omega) ?_ ?_
      · refine ⟨rfl, ?_, hq, hs⟩
        simp (disch := first | omega | assumption | (simp only [tab_len, List.length_cons, List.length_append, List.length_set, List.length_nil, List.length_replicate, List.length_map, one_int, one_bool, one_slice, one_upd, one_lay, one_if, one_c, one_by8, one_row, one_sq, one_grp, nums_len, one_alg, one_num, one_boolF, one_pair, one_zP] <;> omega)) only [go_sem, ↓reduceIte, Nat.reduceEqDiff, Int.reduceAdd, Int.reduceSub]
      · rintro i env M ψ hi hf - ap ⟨rfl, e42, ⟨tq, hq⟩, ts, hs⟩ K hK
        have e4 := hf 4 (by kernel_rfl)
        have e7 := hf 7 (by kernel_rfl)
        have e40 := hf 40 (by kernel_rfl)
        have e41 := hf 41 (by kernel_rfl)
        simp (disch := first | omega | assumption | (simp only [tab_len, List.length_cons, List.length_append, List.length_set, List.length_nil, List.length_replicate, List.length_map, one_int, one_bool, one_slice, one_upd, one_lay, one_if, one_c, one_by8, one_row, one_sq, one_grp, nums_len, one_alg, one_num, one_boolF, one_pair, one_zP] <;> omega)) only [go_sem, ↓reduceIte, Nat.reduceEqDiff, Int.reduceAdd, Int.reduceSub] at e4
        simp (disch := first | omega | assumption | (simp only [tab_len, List.length_cons, List.length_append, List.length_set, List.length_nil, List.length_replicate, List.length_map, one_int, one_bool, one_slice, one_upd, one_lay, one_if, one_c, one_by8, one_row, one_sq, one_grp, nums_len, one_alg, one_num, one_boolF, one_pair, one_zP] <;> omega)) only [go_sem, ↓reduceIte, Nat.reduceEqDiff, Int.reduceAdd, Int.reduceSub] at e7
        simp (disch := first | omega | assumption | (simp only [tab_len, List.length_cons, List.length_append, List.length_set, List.length_nil, List.length_replicate, List.length_map, one_int, one_bool, one_slice, one_upd, one_lay, one_if, one_c, one_by8, one_row, one_sq, one_grp, nums_len, one_alg, one_num, one_boolF, one_pair, one_zP] <;> omega)) only [go_sem, ↓reduceIte, Nat.reduceEqDiff, Int.reduceAdd, Int.reduceSub] at e40
        simp (disch := first | omega | assumption | (simp only [tab_len, List.length_cons, List.length_append, List.length_set, List.length_nil, List.length_replicate, List.length_map, one_int, one_bool, one_slice, one_upd, one_lay, one_if, one_c, one_by8, one_row, one_sq, one_grp, nums_len, one_alg, one_num, one_boolF, one_pair, one_zP] <;> omega)) only [go_sem, ↓reduceIte, Nat.reduceEqDiff, Int.reduceAdd, Int.reduceSub] at e41
        simp (disch := first | omega | assumption | (simp only [tab_len, List.length_cons, List.length_append, List.length_set, List.length_nil, List.length_replicate, List.length_map, one_int, one_bool, one_slice, one_upd, one_lay, one_if, one_c, one_by8, one_row, one_sq, one_grp, nums_len, one_alg, one_num, one_boolF, one_pair, one_zP] <;> omega)) only [go_sem, ↓reduceIte, Nat.reduceEqDiff, Int.reduceAdd, Int.reduceSub, e41, e42]
        refine ifB_dec (fun h => ?_) (fun h => ?_)
        · obtain ⟨bi, ci, fi, ti, ni, i1, i2, i3, i4⟩ := hin.get (show i < (clsUp G n n).length by omega)
          have hMl := (ap lq _).2 hlq
          have li := hl6 i (by omega)
          simp (disch := first | omega | assumption | (simp only [tab_len, List.length_cons, List.length_append, List.length_set, List.length_nil, List.length_replicate, List.length_map, one_int, one_bool, one_slice, one_upd, one_lay, one_if, one_c, one_by8, one_row, one_sq, one_grp, nums_len, one_alg, one_num, one_boolF, one_pair, one_zP] <;> omega)) only [go_sem, ↓reduceIte, Nat.reduceEqDiff, Int.reduceAdd, Int.reduceSub, e40, e42, hlq, hMl, i1]
          refine vc_up ((clsUp G n n).getD i []).length 0 (fun j env M ψ => ψ0 = ψ ∧ env 49 = .int .i64 j ∧ Has M q 32 (tab 484 zP) ∧ Has M s 32 (tab 484 (pairF ⟨cAlg p G n (upd unitF 0 (UInt8.ofNat (firstInv p (n % p)))), gAlg p G n, zT (clsUp G n n) i j⟩))) (by omega) ?_ ?_
          · refine ⟨rfl, ?_, ⟨_, hq⟩, ⟨_, hs⟩⟩
            simp (disch := first | omega | assumption | (simp only [tab_len, List.length_cons, List.length_append, List.length_set, List.length_nil, List.length_replicate, List.length_map, one_int, one_bool, one_slice, one_upd, one_lay, one_if, one_c, one_by8, one_row, one_sq, one_grp, nums_len, one_alg, one_num, one_boolF, one_pair, one_zP] <;> omega)) only [go_sem, ↓reduceIte, Nat.reduceEqDiff, Int.reduceAdd, Int.reduceSub]
          · rintro j env2 M ψ hj hf2 - ap2 ⟨rfl, e49, ⟨tq, hq⟩, ts, hs⟩ K2 hK2
            have u7 := hf2 7 (by kernel_rfl)
            have u8 := hf2 8 (by kernel_rfl)
            have u42 := hf2 42 (by kernel_rfl)
            have u47 := hf2 47 (by kernel_rfl)
            have u48 := hf2 48 (by kernel_rfl)
            simp (disch := first | omega | assumption | (simp only [tab_len, List.length_cons, List.length_append, List.length_set, List.length_nil, List.length_replicate, List.length_map, one_int, one_bool, one_slice, one_upd, one_lay, one_if, one_c, one_by8, one_row, one_sq, one_grp, nums_len, one_alg, one_num, one_boolF, one_pair, one_zP] <;> omega)) only [go_sem, ↓reduceIte, Nat.reduceEqDiff, Int.reduceAdd, Int.reduceSub, e7, e42] at u7
            simp (disch := first | omega | assumption | (simp only [tab_len, List.length_cons, List.length_append, List.length_set, List.length_nil, List.length_replicate, List.length_map, one_int, one_bool, one_slice, one_upd, one_lay, one_if, one_c, one_by8, one_row, one_sq, one_grp, nums_len, one_alg, one_num, one_boolF, one_pair, one_zP] <;> omega)) only [go_sem, ↓reduceIte, Nat.reduceEqDiff, Int.reduceAdd, Int.reduceSub, e7, e42] at u8
            simp (disch := first | omega | assumption | (simp only [tab_len, List.length_cons, List.length_append, List.length_set, List.length_nil, List.length_replicate, List.length_map, one_int, one_bool, one_slice, one_upd, one_lay, one_if, one_c, one_by8, one_row, one_sq, one_grp, nums_len, one_alg, one_num, one_boolF, one_pair, one_zP] <;> omega)) only [go_sem, ↓reduceIte, Nat.reduceEqDiff, Int.reduceAdd, Int.reduceSub, e7, e42] at u42
            simp (disch := first | omega | assumption | (simp only [tab_len, List.length_cons, List.length_append, List.length_set, List.length_nil, List.length_replicate, List.length_map, one_int, one_bool, one_slice, one_upd, one_lay, one_if, one_c, one_by8, one_row, one_sq, one_grp, nums_len, one_alg, one_num, one_boolF, one_pair, one_zP] <;> omega)) only [go_sem, ↓reduceIte, Nat.reduceEqDiff, Int.reduceAdd, Int.reduceSub, e7, e42] at u47
            simp (disch := first | omega | assumption | (simp only [tab_len, List.length_cons, List.length_append, List.length_set, List.length_nil, List.length_replicate, List.length_map, one_int, one_bool, one_slice, one_upd, one_lay, one_if, one_c, one_by8, one_row, one_sq, one_grp, nums_len, one_alg, one_num, one_boolF, one_pair, one_zP] <;> omega)) only [go_sem, ↓reduceIte, Nat.reduceEqDiff, Int.reduceAdd, Int.reduceSub, e7, e42] at u48
            simp (disch := first | omega | assumption | (simp only [tab_len, List.length_cons, List.length_append, List.length_set, List.length_nil, List.length_replicate, List.length_map, one_int, one_bool, one_slice, one_upd, one_lay, one_if, one_c, one_by8, one_row, one_sq, one_grp, nums_len, one_alg, one_num, one_boolF, one_pair, one_zP] <;> omega)) only [go_sem, ↓reduceIte, Nat.reduceEqDiff, Int.reduceAdd, Int.reduceSub, u48, e49]
            refine ifB_dec (fun h2 => ?_) (fun h2 => ?_)
            · have hMi := (ap2 bi _).2 i2
              have hx := hlt i j (by omega) (by omega)
              simp (disch := first | omega | assumption | (simp only [tab_len, List.length_cons, List.length_append, List.length_set, List.length_nil, List.length_replicate, List.length_map, one_int, one_bool, one_slice, one_upd, one_lay, one_if, one_c, one_by8, one_row, one_sq, one_grp, nums_len, one_alg, one_num, one_boolF, one_pair, one_zP] <;> omega)) only [go_sem, ↓reduceIte, Nat.reduceEqDiff, Int.reduceAdd, Int.reduceSub, u7, u8, u47, e49, i2, hMi, i4, hs]
              rw [show (Value.int .u8 1) = by8 1 from rfl, pair_setZ _ _ _ _ (by omega) (by omega), zT_set _ _ _ (by omega)]
              simp (disch := first | omega | assumption | (simp only [tab_len, List.length_cons, List.length_append, List.length_set, List.length_nil, List.length_replicate, List.length_map, one_int, one_bool, one_slice, one_upd, one_lay, one_if, one_c, one_by8, one_row, one_sq, one_grp, nums_len, one_alg, one_num, one_boolF, one_pair, one_zP] <;> omega)) only [go_sem, ↓reduceIte, Nat.reduceEqDiff, Int.reduceAdd, Int.reduceSub, e49]
              refine hK2 _ _ _ (by omega) (Up.here ⟨rfl, ?_, ?_, ?_⟩)
              · simp (disch := first | omega | assumption | (simp only [tab_len, List.length_cons, List.length_append, List.length_set, List.length_nil, List.length_replicate, List.length_map, one_int, one_bool, one_slice, one_upd, one_lay, one_if, one_c, one_by8, one_row, one_sq, one_grp, nums_len, one_alg, one_num, one_boolF, one_pair, one_zP] <;> omega)) only [go_sem, ↓reduceIte, Nat.reduceEqDiff, Int.reduceAdd, Int.reduceSub]
              · rw [has_ne _ _ _ _ _ (by omega)]; exact ⟨_, hq⟩
              · rw [has_same]; exact ⟨rfl, rfl⟩
            · have : j = ((clsUp G n n).getD i []).length := by omega
              subst this
              rw [zT_row] at hs
              simp (disch := first | omega | assumption | (simp only [tab_len, List.length_cons, List.length_append, List.length_set, List.length_nil, List.length_replicate, List.length_map, one_int, one_bool, one_slice, one_upd, one_lay, one_if, one_c, one_by8, one_row, one_sq, one_grp, nums_len, one_alg, one_num, one_boolF, one_pair, one_zP] <;> omega)) only [go_sem, ↓reduceIte, Nat.reduceEqDiff, Int.reduceAdd, Int.reduceSub, u42]
              refine hK _ _ _ (by omega) (Up.here ⟨rfl, ?_, ⟨_, hq⟩, ⟨_, hs⟩⟩)
              simp (disch := first | omega | assumption | (simp only [tab_len, List.length_cons, List.length_append, List.length_set, List.length_nil, List.length_replicate, List.length_map, one_int, one_bool, one_slice, one_upd, one_lay, one_if, one_c, one_by8, one_row, one_sq, one_grp, nums_len, one_alg, one_num, one_boolF, one_pair, one_zP] <;> omega)) only [go_sem, ↓reduceIte, Nat.reduceEqDiff, Int.reduceAdd, Int.reduceSub]
        · have : i = (clsUp G n n).length := by omega
          subst this
          simp (disch := first | omega | assumption | (simp only [tab_len, List.length_cons, List.length_append, List.length_set, List.length_nil, List.length_replicate, List.length_map, one_int, one_bool, one_slice, one_upd, one_lay, one_if, one_c, one_by8, one_row, one_sq, one_grp, nums_len, one_alg, one_num, one_boolF, one_pair, one_zP] <;> omega)) only [go_sem, ↓reduceIte, Nat.reduceEqDiff, Int.reduceAdd, Int.reduceSub, e4, e7, hq, hs]
          refine Up.drop (Le.none _) ⟨?_, rfl⟩
          unfold gpV; rw [if_pos hc, if_neg (by rw [hn]; exact hz), hn]; rfl
end Go.Proofs.Ytbenllhoofoahaa

