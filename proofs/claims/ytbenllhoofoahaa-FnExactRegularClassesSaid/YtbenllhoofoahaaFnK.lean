/- The classes of a group (impl). -/
import Derived.Test.YtbenllhoofoahaaFnJ
namespace Go.Proofs.Ytbenllhoofoahaa
set_option linter.unusedSimpArgs false
set_option linter.unusedVariables false
set_option maxRecDepth 4000
open Go Go.Vc
theorem callB_own {P : Program} {κ M ψ : Mem} {f : FuncId} {args : Array Value} {R : Value → Mem → Mem → Prop} {F : Value → Mem → Mem → Prop} (h : CallsX P f args none' (all κ ψ M) R)
    (hk : ∀ v M' ψ', R v M' ψ' → (∀ b, (M b ≠ none ∨ ψ b ≠ none ∨ κ b ≠ none) → M' b = none ∧ ψ' b = none) → F v (over M M') (over ψ ψ')) : @callB P κ (.func (.func f) #[] #[]) args ⟨F⟩ M ψ :=
  VCall0.vcall ⟨R, by simpa [CallsF] using h, hk⟩
theorem over_one {M : Mem} {b : Nat} {e : Ent} (h : M b = none) : over M (upd none' b (some e)) = upd M b (some e) := by
  funext k
  unfold over
  by_cases hk : k = b
  · subst hk; simp [upd_same, h]
  · simp [upd_ne hk, none']
theorem callB_nums {P : Program} {κ M ψ : Mem} {f : FuncId} {args : Array Value} {l : List Nat} {F : Value → Mem → Mem → Prop} (h : CallsX P f args none' (all κ ψ M) (OwnNums l))
    (hk : ∀ b c h t N, M b = none → ψ b = none → κ b = none → l.length ≤ N → (∀ i < l.length, h i = i64 ((l.getD i 0 : Nat) : Int)) → F (.slice (some ⟨b, 0, none⟩) l.length c) (upd M b (some ⟨2, tab N h, t⟩)) ψ) :
    @callB P κ (.func (.func f) #[] #[]) args ⟨F⟩ M ψ := by
  refine callB_own h ?_
  rintro v M' ψ' ⟨rfl, b, c, h, t, N, rfl, rfl, h1, h2⟩ hap
  have h3 : ∀ (A : Mem), (A b ≠ none → upd none' b (some (⟨2, tab N h, t⟩ : Ent)) b = none) → A b = none := fun A hA => by
    cases hAb : A b with
    | none => rfl
    | some x => have := hA (by simp [hAb]); rw [upd_same] at this; cases this
  have hM := h3 M fun x => (hap b (.inl x)).1
  rw [over_one hM, over_none']
  exact hk b c h t N hM (h3 ψ fun x => (hap b (.inr (.inl x))).1) (h3 κ fun x => (hap b (.inr (.inr x))).1) h1 h2
/-- Slices of numbers, laid down. -/
def Inner (ψ : Mem) (L : List (List Nat)) (cells : List Value) : Prop := cells.length = L.length ∧ ∀ (k : Nat) (l : List Nat), L[k]? = some l →
  ∃ (b c : Nat) (h : Nat → Value) (t N : Nat), cells[k]? = some (.slice (some ⟨b, 0, none⟩) l.length c) ∧ ψ b = some ⟨2, tab N h, t⟩ ∧ l.length ≤ N ∧ ∀ i < l.length, h i = i64 ((l.getD i 0 : Nat) : Int)
def Lists (ψ : Mem) (v : Value) (L : List (List Nat)) : Prop := ∃ (q c : Nat) (cells : List Value) (t : Nat), v = .slice (some ⟨q, 0, none⟩) L.length c ∧ ψ q = some ⟨41, cells, t⟩ ∧ Inner ψ L cells
theorem Inner.mono {ψ ψ' : Mem} {L : List (List Nat)} {cells : List Value} (h : Inner ψ L cells) (hl : Le ψ ψ') : Inner ψ' L cells := ⟨h.1, fun k l hk => by
  obtain ⟨b, c, h, t, N, h1, h2, h3⟩ := h.2 k l hk
  exact ⟨b, c, h, t, N, h1, hl _ _ h2, h3⟩⟩
theorem Lists.mono {ψ ψ' : Mem} {v : Value} {L : List (List Nat)} (h : Lists ψ v L) (hl : Le ψ ψ') : Lists ψ' v L := by
  obtain ⟨q, c, cells, t, h1, h2, h3⟩ := h
  exact ⟨q, c, cells, t, h1, hl _ _ h2, h3.mono hl⟩
theorem Inner.app {ψ : Mem} {L : List (List Nat)} {cells : List Value} (h : Inner ψ L cells) {l : List Nat} {b c t N : Nat} {f : Nat → Value} (h1 : ψ b = some ⟨2, tab N f, t⟩) (h2 : l.length ≤ N) (h3 : ∀ i < l.length, f i = i64 ((l.getD i 0 : Nat) : Int)) :
    Inner ψ (L ++ [l]) (cells ++ [.slice (some ⟨b, 0, none⟩) l.length c]) := by
  refine ⟨by simp [h.1], fun k l' hk => ?_⟩
  by_cases hkl : k < L.length
  · rw [List.getElem?_append_left hkl] at hk
    obtain ⟨b, c, f, t, N, q1, q2⟩ := h.2 k l' hk
    exact ⟨b, c, f, t, N, by rw [List.getElem?_append_left (by rw [h.1]; exact hkl)]; exact q1, q2⟩
  · rw [List.getElem?_append_right (by omega)] at hk
    have h0 : k - L.length = 0 := by
      by_cases h0 : k - L.length = 0
      · exact h0
      · rw [List.getElem?_eq_none (by simp; omega)] at hk; cases hk
    rw [h0] at hk
    simp at hk; subst hk
    exact ⟨b, c, f, t, N, by rw [List.getElem?_append_right (by rw [h.1]; omega), h.1, h0]; rfl, h1, h2, h3⟩
theorem le_upd {ψ : Mem} {b : Nat} {e : Ent} (h : ψ b = none) : Le ψ (upd ψ b (some e)) := fun k x hk => by
  rw [upd_ne fun e => by rw [e, h] at hk; cases hk]; exact hk
def isRep (G : Grp) (n i : Nat) : Bool := (cl G n i).head? == some i
def clsUp (G : Grp) (n i : Nat) : List (List Nat) := ((List.range i).filter (isRep G n)).map (cl G n)
theorem clsUp_succ (G : Grp) (n i : Nat) : clsUp G n (i + 1) = clsUp G n i ++ (if isRep G n i = true then [cl G n i] else []) := by
  unfold clsUp
  rw [List.range_succ, List.filter_append, List.map_append]
  congr 1
  by_cases h : isRep G n i = true
  · simp [h]
  · simp [h]
theorem clsUp_len (G : Grp) (n i : Nat) : (clsUp G n i).length ≤ i := by
  have := List.length_filter_le (isRep G n) (List.range i)
  simpa [clsUp] using this
theorem self_cl {G : Grp} {n i : Nat} (hg : IsG G n) (hi : i < n) : i ∈ cl G n i := by
  have h1 := hg.1.1
  have h0 : 0 < n := by omega
  obtain ⟨i1, i2, i3, i4, i5⟩ := inv_spec hg h0
  refine mem_cl.2 ⟨hi, 0, h0, ?_⟩
  unfold conj
  rw [one_mul hg hi]
  have : inv G n 0 = 0 := by have := i2; rwa [one_mul hg i1] at this
  rw [this, mul_one hg hi]
theorem cl_pos {G : Grp} {n i : Nat} (hg : IsG G n) (hi : i < n) : 0 < (cl G n i).length := List.length_pos_of_mem (self_cl hg hi)
theorem fn_classes (κ : Mem) (G : Grp) (n : Nat) (b : Nat) (ty : TypeId) (hb : Has κ b ty (tab 37 (grpF G))) (hn : G.n = n) (hg : IsG G n) :
    CallsX Try.prog 25 #[ptr b] none' κ (fun v M ψ => M = none' ∧ Lists ψ v (clsUp G n n)) := by
  have h6 := hg.1
  refine run_of (rs := [.tmp 2]) (args := [ptr b]) mixed Try.func25 rfl ok25 (by kernel_rfl) (by show 1 ≤ _; decide) rfl ?_
  simp (disch := first | omega | assumption | (simp only [tab_len, List.length_cons, List.length_append, List.length_set, List.length_nil, List.length_replicate, List.length_map, one_int, one_bool, one_slice, one_upd, one_lay, one_if, one_c, one_by8, one_row, one_sq, one_grp, nums_len, one_alg, one_num] <;> omega)) only [go_sem, ↓reduceIte, Nat.reduceEqDiff, Int.reduceAdd, Int.reduceSub]
  refine anew_intro fun q q1 q2 q3 => ?_
  have q0 := q1
  try simp only [upd_none] at q0
  simp (disch := first | omega | assumption | (simp only [tab_len, List.length_cons, List.length_append, List.length_set, List.length_nil, List.length_replicate, List.length_map, one_int, one_bool, one_slice, one_upd, one_lay, one_if, one_c, one_by8, one_row, one_sq, one_grp, nums_len, one_alg, one_num] <;> omega)) only [go_sem, ↓reduceIte, Nat.reduceEqDiff, Int.reduceAdd, Int.reduceSub]
  refine callB_gives (fn_n G _ b ty (has_new (by rw [all_none]; exact hb) q1 q2 q3)) ?_
  simp (disch := first | omega | assumption | (simp only [tab_len, List.length_cons, List.length_append, List.length_set, List.length_nil, List.length_replicate, List.length_map, one_int, one_bool, one_slice, one_upd, one_lay, one_if, one_c, one_by8, one_row, one_sq, one_grp, nums_len, one_alg, one_num] <;> omega)) only [go_sem, ↓reduceIte, Nat.reduceEqDiff, Int.reduceAdd, Int.reduceSub, hn]
  refine vc_up n 0 (fun i env M ψ => env 9 = .int .i64 i ∧ ∃ q c cells, env 3 = .slice (some ⟨q, 0, none⟩) (clsUp G n i).length c ∧ M q = some ⟨41, cells, c⟩ ∧ (clsUp G n i).length ≤ c ∧ c ≤ maxLen ∧ Inner ψ (clsUp G n i) cells) (by omega) ?_ ?_
  · refine ⟨?_, q, 0, [], ?_, upd_same .., by simp [clsUp], by omega, rfl, fun k l hk => by simp [clsUp] at hk⟩
    · simp (disch := first | omega | assumption | (simp only [tab_len, List.length_cons, List.length_append, List.length_set, List.length_nil, List.length_replicate, List.length_map, one_int, one_bool, one_slice, one_upd, one_lay, one_if, one_c, one_by8, one_row, one_sq, one_grp, nums_len, one_alg, one_num] <;> omega)) only [go_sem, ↓reduceIte, Nat.reduceEqDiff, Int.reduceAdd, Int.reduceSub]
    · simp (disch := first | omega | assumption | (simp only [tab_len, List.length_cons, List.length_append, List.length_set, List.length_nil, List.length_replicate, List.length_map, one_int, one_bool, one_slice, one_upd, one_lay, one_if, one_c, one_by8, one_row, one_sq, one_grp, nums_len, one_alg, one_num] <;> omega)) only [go_sem, ↓reduceIte, Nat.reduceEqDiff, Int.reduceAdd, Int.reduceSub]
      rfl
  · rintro i env M ψ hi hf - ap ⟨e9, q, c, cells, e3, hq, hqc, hcm, hin⟩ K hK
    have e0 := hf 0 (by kernel_rfl)
    have e8 := hf 8 (by kernel_rfl)
    simp (disch := first | omega | assumption | (simp only [tab_len, List.length_cons, List.length_append, List.length_set, List.length_nil, List.length_replicate, List.length_map, one_int, one_bool, one_slice, one_upd, one_lay, one_if, one_c, one_by8, one_row, one_sq, one_grp, nums_len, one_alg, one_num] <;> omega)) only [go_sem, ↓reduceIte, Nat.reduceEqDiff, Int.reduceAdd, Int.reduceSub] at e0
    simp (disch := first | omega | assumption | (simp only [tab_len, List.length_cons, List.length_append, List.length_set, List.length_nil, List.length_replicate, List.length_map, one_int, one_bool, one_slice, one_upd, one_lay, one_if, one_c, one_by8, one_row, one_sq, one_grp, nums_len, one_alg, one_num] <;> omega)) only [go_sem, ↓reduceIte, Nat.reduceEqDiff, Int.reduceAdd, Int.reduceSub] at e8
    simp (disch := first | omega | assumption | (simp only [tab_len, List.length_cons, List.length_append, List.length_set, List.length_nil, List.length_replicate, List.length_map, one_int, one_bool, one_slice, one_upd, one_lay, one_if, one_c, one_by8, one_row, one_sq, one_grp, nums_len, one_alg, one_num] <;> omega)) only [go_sem, ↓reduceIte, Nat.reduceEqDiff, Int.reduceAdd, Int.reduceSub, e8, e9]
    refine ifB_dec (fun h => ?_) (fun h => ?_)
    · simp (disch := first | omega | assumption | (simp only [tab_len, List.length_cons, List.length_append, List.length_set, List.length_nil, List.length_replicate, List.length_map, one_int, one_bool, one_slice, one_upd, one_lay, one_if, one_c, one_by8, one_row, one_sq, one_grp, nums_len, one_alg, one_num] <;> omega)) only [go_sem, ↓reduceIte, Nat.reduceEqDiff, Int.reduceAdd, Int.reduceSub, e0, e9]
      refine callB_nums (fn_classOf _ G n b ty (ap.has hb) hn hg i (by omega)) fun b' c' h' t' N' m1 m2 m3 hN hh => ?_
      have hp := cl_pos hg (show i < n by omega)
      have h0 : (0 : Int) ≤ 0 ∧ (0 : Int) < ((cl G n i).length : Int) := by omega
      have h00 := hh 0 hp
      simp (disch := first | omega | assumption | (simp only [tab_len, List.length_cons, List.length_append, List.length_set, List.length_nil, List.length_replicate, List.length_map, one_int, one_bool, one_slice, one_upd, one_lay, one_if, one_c, one_by8, one_row, one_sq, one_grp, nums_len, one_alg, one_num] <;> omega)) only [go_sem, ↓reduceIte, Nat.reduceEqDiff, Int.reduceAdd, Int.reduceSub, h00]
      have hqb : q ≠ b' := fun e => by rw [e, m1] at hq; cases hq
      have hlen := clsUp_len G n i
      refine ifB_dec (fun h2 => ?_) (fun h2 => ?_)
      · have hrep : isRep G n i = true := by
          unfold isRep
          cases hcl : cl G n i with
          | nil => rw [hcl] at hp; simp at hp
          | cons a r => rw [hcl] at h2; simp at h2 ⊢; omega
        simp (disch := first | omega | assumption | (simp only [tab_len, List.length_cons, List.length_append, List.length_set, List.length_nil, List.length_replicate, List.length_map, one_int, one_bool, one_slice, one_upd, one_lay, one_if, one_c, one_by8, one_row, one_sq, one_grp, nums_len, one_alg, one_num] <;> omega)) only [go_sem, ↓reduceIte, Nat.reduceEqDiff, Int.reduceAdd, Int.reduceSub, e3]
        refine anew_intro fun r r1 r2 r3 => ?_
        have r0 := r1
        try simp only [upd_none] at r0
        have hrb : r ≠ b' := fun e => by rw [e, upd_same] at r1; cases r1
        have hrq : r ≠ q := fun e => by rw [e, upd_ne hqb, hq] at r1; cases r1
        have hml := maxLen_big
        simp (disch := first | omega | assumption | (simp only [tab_len, List.length_cons, List.length_append, List.length_set, List.length_nil, List.length_replicate, List.length_map, one_int, one_bool, one_slice, one_upd, one_lay, one_if, one_c, one_by8, one_row, one_sq, one_grp, nums_len, one_alg, one_num] <;> omega)) only [go_sem, ↓reduceIte, Nat.reduceEqDiff, Int.reduceAdd, Int.reduceSub]
        refine append_at (e := 41) (ty := 41) (tot := 1) (l := cells) (l' := [.slice (some ⟨b', 0, none⟩) (cl G n i).length c']) Try.underlying39 a39 c41 y39 (by rw [upd_ne (Ne.symm hrq), upd_ne hqb]; exact hq) hin.1 hqc hcm
          (by simp only [all, over, upd_same, Option.some_or]; rfl) rfl rfl (by omega) (by omega) (by omega) fun g c2 g1 g2 g3 k1 k2 => ?_
        have hgb : g ≠ b' := fun e => by rw [e, upd_ne (Ne.symm hqb), upd_ne (Ne.symm hrb), upd_same] at g1; cases g1
        simp (disch := first | omega | assumption | (simp only [tab_len, List.length_cons, List.length_append, List.length_set, List.length_nil, List.length_replicate, List.length_map, one_int, one_bool, one_slice, one_upd, one_lay, one_if, one_c, one_by8, one_row, one_sq, one_grp, nums_len, one_alg, one_num] <;> omega)) only [go_sem, ↓reduceIte, Nat.reduceEqDiff, Int.reduceAdd, Int.reduceSub, e9]
        refine hK _ _ _ (by omega) (Up.lay (g := b') (e := ⟨2, tab N' h', t'⟩) (M' := upd none' g (some ⟨41, cells ++ [.slice (some ⟨b', 0, none⟩) (cl G n i).length c'], c2⟩)) ?_ rfl m2 ?_ ?_ ⟨?_, g, c2, _, ?_, upd_same .., ?_, k2, ?_⟩)
        · rw [upd_ne (Ne.symm hgb), upd_ne (Ne.symm hqb), upd_ne (Ne.symm hrb), upd_same]
        · intro k x hk
          by_cases hkg : k = g
          · subst hkg; rw [upd_same] at hk ⊢; exact hk
          · rw [upd_ne hkg] at hk; cases hk
        · rw [upd_ne (Ne.symm hgb)]; rfl
        · simp (disch := first | omega | assumption | (simp only [tab_len, List.length_cons, List.length_append, List.length_set, List.length_nil, List.length_replicate, List.length_map, one_int, one_bool, one_slice, one_upd, one_lay, one_if, one_c, one_by8, one_row, one_sq, one_grp, nums_len, one_alg, one_num] <;> omega)) only [go_sem, ↓reduceIte, Nat.reduceEqDiff, Int.reduceAdd, Int.reduceSub]
        · rw [clsUp_succ, hrep]
          simp (disch := first | omega | assumption | (simp only [tab_len, List.length_cons, List.length_append, List.length_set, List.length_nil, List.length_replicate, List.length_map, one_int, one_bool, one_slice, one_upd, one_lay, one_if, one_c, one_by8, one_row, one_sq, one_grp, nums_len, one_alg, one_num] <;> omega)) only [go_sem, ↓reduceIte, Nat.reduceEqDiff, Int.reduceAdd, Int.reduceSub, List.length_append, List.length_cons, List.length_nil]
        · rw [clsUp_succ, hrep]; simpa using k1
        · rw [clsUp_succ, hrep]
          exact (hin.mono (le_upd m2)).app (upd_same ..) hN hh
      · have hrep : ¬ isRep G n i = true := by
          unfold isRep
          cases hcl : cl G n i with
          | nil => simp
          | cons a r => rw [hcl] at h2; simp at h2 ⊢; omega
        simp (disch := first | omega | assumption | (simp only [tab_len, List.length_cons, List.length_append, List.length_set, List.length_nil, List.length_replicate, List.length_map, one_int, one_bool, one_slice, one_upd, one_lay, one_if, one_c, one_by8, one_row, one_sq, one_grp, nums_len, one_alg, one_num] <;> omega)) only [go_sem, ↓reduceIte, Nat.reduceEqDiff, Int.reduceAdd, Int.reduceSub, e9]
        refine hK _ _ _ (by omega) (Up.here ⟨?_, q, c, cells, ?_, ?_, ?_, hcm, ?_⟩)
        · simp (disch := first | omega | assumption | (simp only [tab_len, List.length_cons, List.length_append, List.length_set, List.length_nil, List.length_replicate, List.length_map, one_int, one_bool, one_slice, one_upd, one_lay, one_if, one_c, one_by8, one_row, one_sq, one_grp, nums_len, one_alg, one_num] <;> omega)) only [go_sem, ↓reduceIte, Nat.reduceEqDiff, Int.reduceAdd, Int.reduceSub]
        · rw [clsUp_succ, if_neg hrep, List.append_nil]
          simp (disch := first | omega | assumption | (simp only [tab_len, List.length_cons, List.length_append, List.length_set, List.length_nil, List.length_replicate, List.length_map, one_int, one_bool, one_slice, one_upd, one_lay, one_if, one_c, one_by8, one_row, one_sq, one_grp, nums_len, one_alg, one_num] <;> omega)) only [go_sem, ↓reduceIte, Nat.reduceEqDiff, Int.reduceAdd, Int.reduceSub, e3]
        · rw [upd_ne hqb]; exact hq
        · rw [clsUp_succ, if_neg hrep, List.append_nil]; exact hqc
        · rw [clsUp_succ, if_neg hrep, List.append_nil]; exact hin
    · simp (disch := first | omega | assumption | (simp only [tab_len, List.length_cons, List.length_append, List.length_set, List.length_nil, List.length_replicate, List.length_map, one_int, one_bool, one_slice, one_upd, one_lay, one_if, one_c, one_by8, one_row, one_sq, one_grp, nums_len, one_alg, one_num] <;> omega)) only [go_sem, ↓reduceIte, Nat.reduceEqDiff, Int.reduceAdd, Int.reduceSub, e3]
      have : i = n := by omega
      subst this
      have hψq : ψ q = none := by
        cases hp : ψ q with
        | none => rfl
        | some x => have := (ap q x).2 hp; rw [hq] at this; cases this
      exact Up.lay (g := q) (M' := none') hq rfl hψq (Le.none _) rfl ⟨rfl, q, c, cells, c, rfl, upd_same .., hin.mono (le_upd hψq)⟩
end Go.Proofs.Ytbenllhoofoahaa

