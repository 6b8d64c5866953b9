/- The class of an element (impl). -/
import Derived.Test.YtbenllhoofoahaaFnI
namespace Go.Proofs.Ytbenllhoofoahaa
set_option linter.unusedSimpArgs false
set_option linter.unusedVariables false
set_option maxRecDepth 4000
open Go Go.Vc
theorem up_own {X ψ M : Mem} {b : Nat} {e : Ent} {R : Mem → Mem → Prop} (h : M b = some e) (hR : R (upd none' b (some e)) ψ) : Up X ψ M R :=
  have hle : Le (upd none' b (some e)) M := fun k x hk => by
    by_cases hkb : k = b
    · subst hkb; rw [upd_same] at hk; rw [h]; exact hk
    · rw [upd_ne hkb] at hk; cases hk
  ⟨upd none' b (some e), ψ, hle, Le.refl _, fun b e hb => .inl hb, fun b e hb => .inr hb, hR⟩
def conj (G : Grp) (n x i : Nat) : Nat := mul G (mul G x i) (inv G n x)
/-- The class of i. -/
def cl (G : Grp) (n i : Nat) : List Nat := (List.range n).filter fun j => (List.range n).any fun x => conj G n x i == j
theorem mem_cl {G : Grp} {n i j : Nat} : j ∈ cl G n i ↔ j < n ∧ ∃ x < n, conj G n x i = j := by
  simp [cl, List.mem_filter, List.any_eq_true]
theorem cl_asc (G : Grp) (n i : Nat) : (cl G n i).Pairwise (· < ·) := List.Pairwise.filter _ List.pairwise_lt_range
/-- A list of numbers in order is told by its elements. -/
theorem asc_unique : ∀ (l : List Nat) (m : Nat) (g : Nat → Int), l.Pairwise (· < ·) → StrictAsc m g → (∀ v : Int, (∃ i < m, g i = v) ↔ ∃ j ∈ l, (j : Int) = v) → m = l.length ∧ ∀ i < m, g i = ((l.getD i 0 : Nat) : Int)
  | [], m, g, _, _, h => by
    have : m = 0 := by
      by_cases hm : m = 0
      · exact hm
      · obtain ⟨j, hj, _⟩ := (h (g 0)).1 ⟨0, by omega, rfl⟩; cases hj
    subst this; exact ⟨rfl, fun i hi => by omega⟩
  | a :: l, m, g, hl, hg, h => by
    have hl' := List.pairwise_cons.1 hl
    have hm : m ≠ 0 := fun hm => by
      obtain ⟨i, hi, _⟩ := (h a).2 ⟨a, by simp, rfl⟩; omega
    obtain ⟨m, rfl⟩ : ∃ k, m = k + 1 := ⟨m - 1, by omega⟩
    have hmono : ∀ i < m + 1, g 0 ≤ g i := fun i hi => by
      by_cases h0 : i = 0
      · subst h0; omega
      · have := hg 0 i (by omega) hi; omega
    have h0 : g 0 = a := by
      obtain ⟨j, hj, e⟩ := (h (g 0)).1 ⟨0, by omega, rfl⟩
      obtain ⟨i, hi, e2⟩ := (h a).2 ⟨a, by simp, rfl⟩
      have h3 := hmono i hi
      rcases List.mem_cons.1 hj with rfl | hj
      · exact e.symm
      · have := hl'.1 j hj; omega
    obtain ⟨r1, r2⟩ := asc_unique l m (fun i => g (i + 1)) hl'.2 (fun x y h1 h2 => hg (x + 1) (y + 1) (by omega) (by omega)) (fun v => by
      constructor
      · rintro ⟨i, hi, e⟩
        obtain ⟨j, hj, e2⟩ := (h v).1 ⟨i + 1, by omega, e⟩
        rcases List.mem_cons.1 hj with rfl | hj
        · have := hg 0 (i + 1) (by omega) (by omega); omega
        · exact ⟨j, hj, e2⟩
      · rintro ⟨j, hj, e⟩
        obtain ⟨i, hi, e2⟩ := (h v).2 ⟨j, by simp [hj], e⟩
        have := hl'.1 j hj
        by_cases hi0 : i = 0
        · subst hi0; omega
        · exact ⟨i - 1, by omega, by rw [show i - 1 + 1 = i by omega]; exact e2⟩)
    refine ⟨by rw [r1]; rfl, fun i hi => ?_⟩
    by_cases hi0 : i = 0
    · subst hi0; simpa using h0
    · obtain ⟨i, rfl⟩ : ∃ k, i = k + 1 := ⟨i - 1, by omega⟩
      simpa using r2 i (by omega)
/-- A slice of its own, with these numbers. -/
def OwnNums (l : List Nat) (v : Value) (M ψ : Mem) : Prop := ψ = none' ∧ ∃ b c h t N, v = .slice (some ⟨b, 0, none⟩) l.length c ∧ M = upd none' b (some ⟨2, tab N h, t⟩) ∧ l.length ≤ N ∧ ∀ i < l.length, h i = i64 ((l.getD i 0 : Nat) : Int)
theorem maxLen_big : 1000000 ≤ maxLen := by decide
theorem fn_classOf (κ : Mem) (G : Grp) (n : Nat) (b : Nat) (ty : TypeId) (hb : Has κ b ty (tab 37 (grpF G))) (hn : G.n = n) (hg : IsG G n) (i : Nat) (hi : i < n) :
    CallsX Try.prog 45 #[ptr b, i64 i] none' κ (OwnNums (cl G n i)) := by
  have h6 := hg.1
  refine run_of (rs := [.tmp 4]) (args := [ptr b, i64 i]) mixed Try.func45 rfl ok45 (by kernel_rfl) (by show 2 ≤ _; decide) rfl ?_
  simp (disch := first | omega | assumption | (simp only [tab_len, List.length_cons, List.length_append, List.length_set, List.length_nil, List.length_replicate, List.length_map, one_int, one_bool, one_slice, one_upd, one_lay, one_if, one_c, one_by8, one_row, one_sq, one_grp, nums_len, one_alg, one_num] <;> omega)) only [go_sem, ↓reduceIte, Nat.reduceEqDiff, Int.reduceAdd, Int.reduceSub]
  refine anew_intro fun q q1 q2 q3 => ?_
  have q0 := q1
  try simp only [upd_none] at q0
  simp (disch := first | omega | assumption | (simp only [tab_len, List.length_cons, List.length_append, List.length_set, List.length_nil, List.length_replicate, List.length_map, one_int, one_bool, one_slice, one_upd, one_lay, one_if, one_c, one_by8, one_row, one_sq, one_grp, nums_len, one_alg, one_num] <;> omega)) only [go_sem, ↓reduceIte, Nat.reduceEqDiff, Int.reduceAdd, Int.reduceSub]
  refine callB_gives (fn_n G _ b ty (has_new (by rw [all_none]; exact hb) q1 q2 q3)) ?_
  simp (disch := first | omega | assumption | (simp only [tab_len, List.length_cons, List.length_append, List.length_set, List.length_nil, List.length_replicate, List.length_map, one_int, one_bool, one_slice, one_upd, one_lay, one_if, one_c, one_by8, one_row, one_sq, one_grp, nums_len, one_alg, one_num] <;> omega)) only [go_sem, ↓reduceIte, Nat.reduceEqDiff, Int.reduceAdd, Int.reduceSub, hn]
  refine vc_up n 0 (fun x env M ψ => ψ = none' ∧ env 10 = .int .i64 x ∧ ∃ q c f, env 5 = .slice (some ⟨q, 0, none⟩) x c ∧ M q = some ⟨2, tab x (numF f), c⟩ ∧ x ≤ c ∧ c ≤ maxLen ∧ ∀ k < x, f k = conj G n k i) (by omega) ?_ ?_
  · refine ⟨rfl, ?_, q, 0, fun _ => 0, ?_, upd_same .., by omega, by omega, fun k hk => (by omega)⟩
    · simp (disch := first | omega | assumption | (simp only [tab_len, List.length_cons, List.length_append, List.length_set, List.length_nil, List.length_replicate, List.length_map, one_int, one_bool, one_slice, one_upd, one_lay, one_if, one_c, one_by8, one_row, one_sq, one_grp, nums_len, one_alg, one_num] <;> omega)) only [go_sem, ↓reduceIte, Nat.reduceEqDiff, Int.reduceAdd, Int.reduceSub]
    · simp (disch := first | omega | assumption | (simp only [tab_len, List.length_cons, List.length_append, List.length_set, List.length_nil, List.length_replicate, List.length_map, one_int, one_bool, one_slice, one_upd, one_lay, one_if, one_c, one_by8, one_row, one_sq, one_grp, nums_len, one_alg, one_num] <;> omega)) only [go_sem, ↓reduceIte, Nat.reduceEqDiff, Int.reduceAdd, Int.reduceSub]
  · rintro x env M ψ hx hf - ap ⟨rfl, e10, q, c, f, e5, hq, hxc, hcm, hfk⟩ K hK
    have e0 := hf 0 (by kernel_rfl)
    have e1 := hf 1 (by kernel_rfl)
    have e9 := hf 9 (by kernel_rfl)
    simp (disch := first | omega | assumption | (simp only [tab_len, List.length_cons, List.length_append, List.length_set, List.length_nil, List.length_replicate, List.length_map, one_int, one_bool, one_slice, one_upd, one_lay, one_if, one_c, one_by8, one_row, one_sq, one_grp, nums_len, one_alg, one_num] <;> omega)) only [go_sem, ↓reduceIte, Nat.reduceEqDiff, Int.reduceAdd, Int.reduceSub] at e0
    simp (disch := first | omega | assumption | (simp only [tab_len, List.length_cons, List.length_append, List.length_set, List.length_nil, List.length_replicate, List.length_map, one_int, one_bool, one_slice, one_upd, one_lay, one_if, one_c, one_by8, one_row, one_sq, one_grp, nums_len, one_alg, one_num] <;> omega)) only [go_sem, ↓reduceIte, Nat.reduceEqDiff, Int.reduceAdd, Int.reduceSub] at e1
    simp (disch := first | omega | assumption | (simp only [tab_len, List.length_cons, List.length_append, List.length_set, List.length_nil, List.length_replicate, List.length_map, one_int, one_bool, one_slice, one_upd, one_lay, one_if, one_c, one_by8, one_row, one_sq, one_grp, nums_len, one_alg, one_num] <;> omega)) only [go_sem, ↓reduceIte, Nat.reduceEqDiff, Int.reduceAdd, Int.reduceSub] at e9
    simp (disch := first | omega | assumption | (simp only [tab_len, List.length_cons, List.length_append, List.length_set, List.length_nil, List.length_replicate, List.length_map, one_int, one_bool, one_slice, one_upd, one_lay, one_if, one_c, one_by8, one_row, one_sq, one_grp, nums_len, one_alg, one_num] <;> omega)) only [go_sem, ↓reduceIte, Nat.reduceEqDiff, Int.reduceAdd, Int.reduceSub, e9, e10]
    refine ifB_dec (fun h => ?_) (fun h => ?_)
    · have m1 := mul_lt hg (show x < n by omega) hi
      obtain ⟨i1, i2, i3, i4, i5⟩ := inv_spec hg (show x < n by omega)
      simp (disch := first | omega | assumption | (simp only [tab_len, List.length_cons, List.length_append, List.length_set, List.length_nil, List.length_replicate, List.length_map, one_int, one_bool, one_slice, one_upd, one_lay, one_if, one_c, one_by8, one_row, one_sq, one_grp, nums_len, one_alg, one_num] <;> omega)) only [go_sem, ↓reduceIte, Nat.reduceEqDiff, Int.reduceAdd, Int.reduceSub, e0, e1, e5, e10]
      refine callB_gives (fn_times G _ b ty (ap.has hb) x i (by omega) (by omega)) ?_
      simp (disch := first | omega | assumption | (simp only [tab_len, List.length_cons, List.length_append, List.length_set, List.length_nil, List.length_replicate, List.length_map, one_int, one_bool, one_slice, one_upd, one_lay, one_if, one_c, one_by8, one_row, one_sq, one_grp, nums_len, one_alg, one_num] <;> omega)) only [go_sem, ↓reduceIte, Nat.reduceEqDiff, Int.reduceAdd, Int.reduceSub, e0, e1, e5, e10]
      refine callB_gives (fn_inverse G _ b ty (ap.has hb) n hn (by omega) x (by omega)) ?_
      rw [i5]
      simp (disch := first | omega | assumption | (simp only [tab_len, List.length_cons, List.length_append, List.length_set, List.length_nil, List.length_replicate, List.length_map, one_int, one_bool, one_slice, one_upd, one_lay, one_if, one_c, one_by8, one_row, one_sq, one_grp, nums_len, one_alg, one_num] <;> omega)) only [go_sem, ↓reduceIte, Nat.reduceEqDiff, Int.reduceAdd, Int.reduceSub, e0, e1, e5, e10]
      refine callB_gives (fn_times G _ b ty (ap.has hb) (mul G x i) (inv G n x) (by omega) (by omega)) ?_
      simp (disch := first | omega | assumption | (simp only [tab_len, List.length_cons, List.length_append, List.length_set, List.length_nil, List.length_replicate, List.length_map, one_int, one_bool, one_slice, one_upd, one_lay, one_if, one_c, one_by8, one_row, one_sq, one_grp, nums_len, one_alg, one_num] <;> omega)) only [go_sem, ↓reduceIte, Nat.reduceEqDiff, Int.reduceAdd, Int.reduceSub, e0, e1, e5, e10]
      refine anew_intro fun r r1 r2 r3 => ?_
      have r0 := r1
      try simp only [upd_none] at r0
      simp (disch := first | omega | assumption | (simp only [tab_len, List.length_cons, List.length_append, List.length_set, List.length_nil, List.length_replicate, List.length_map, one_int, one_bool, one_slice, one_upd, one_lay, one_if, one_c, one_by8, one_row, one_sq, one_grp, nums_len, one_alg, one_num] <;> omega)) only [go_sem, ↓reduceIte, Nat.reduceEqDiff, Int.reduceAdd, Int.reduceSub]
      have hrq := fresh_ne hq r1
      have hml := maxLen_big
      refine append_at (e := 2) (ty := 2) (tot := 1) (l := tab x (numF f)) (l' := [.int .i64 (mul G (mul G x i) (inv G n x))]) Try.underlying41 a41 c2 y41 (by rw [upd_ne (Ne.symm hrq)]; exact hq) (tab_len ..) hxc hcm
        (by simp only [all, over, upd_same, Option.some_or]; rfl) rfl rfl (by omega) (by omega) (by omega) fun g c' g1 g2 g3 k1 k2 => ?_
      rw [num_app]
      simp (disch := first | omega | assumption | (simp only [tab_len, List.length_cons, List.length_append, List.length_set, List.length_nil, List.length_replicate, List.length_map, one_int, one_bool, one_slice, one_upd, one_lay, one_if, one_c, one_by8, one_row, one_sq, one_grp, nums_len, one_alg, one_num] <;> omega)) only [go_sem, ↓reduceIte, Nat.reduceEqDiff, Int.reduceAdd, Int.reduceSub, e10]
      refine hK _ _ _ (by omega) (Up.here ⟨rfl, ?_, g, c', upd f x (mul G (mul G x i) (inv G n x)), ?_, upd_same .., by omega, k2, all_succ (fun k hk => by rw [upd_ne (by omega)]; exact hfk k hk) (by rw [upd_same]; rfl)⟩)
      · simp (disch := first | omega | assumption | (simp only [tab_len, List.length_cons, List.length_append, List.length_set, List.length_nil, List.length_replicate, List.length_map, one_int, one_bool, one_slice, one_upd, one_lay, one_if, one_c, one_by8, one_row, one_sq, one_grp, nums_len, one_alg, one_num] <;> omega)) only [go_sem, ↓reduceIte, Nat.reduceEqDiff, Int.reduceAdd, Int.reduceSub]
      · simp (disch := first | omega | assumption | (simp only [tab_len, List.length_cons, List.length_append, List.length_set, List.length_nil, List.length_replicate, List.length_map, one_int, one_bool, one_slice, one_upd, one_lay, one_if, one_c, one_by8, one_row, one_sq, one_grp, nums_len, one_alg, one_num] <;> omega)) only [go_sem, ↓reduceIte, Nat.reduceEqDiff, Int.reduceAdd, Int.reduceSub]
    · simp (disch := first | omega | assumption | (simp only [tab_len, List.length_cons, List.length_append, List.length_set, List.length_nil, List.length_replicate, List.length_map, one_int, one_bool, one_slice, one_upd, one_lay, one_if, one_c, one_by8, one_row, one_sq, one_grp, nums_len, one_alg, one_num] <;> omega)) only [go_sem, ↓reduceIte, Nat.reduceEqDiff, Int.reduceAdd, Int.reduceSub, e5]
      have : x = n := by omega
      subst this
      refine callB_edits hq (fn_sort _ q c c x f (by omega)) ?_
      rintro v e' ⟨g, hs, ha, rfl⟩
      simp (disch := first | omega | assumption | (simp only [tab_len, List.length_cons, List.length_append, List.length_set, List.length_nil, List.length_replicate, List.length_map, one_int, one_bool, one_slice, one_upd, one_lay, one_if, one_c, one_by8, one_row, one_sq, one_grp, nums_len, one_alg, one_num] <;> omega)) only [go_sem, ↓reduceIte, Nat.reduceEqDiff, Int.reduceAdd, Int.reduceSub, e5]
      refine callB_edits (upd_same ..) (fn_compact _ q c c x g (by omega) (by omega) ha) ?_
      rintro v e' ⟨m, h1, g2, hm, rfl, rfl, hh, hc1, hc2⟩
      simp (disch := first | omega | assumption | (simp only [tab_len, List.length_cons, List.length_append, List.length_set, List.length_nil, List.length_replicate, List.length_map, one_int, one_bool, one_slice, one_upd, one_lay, one_if, one_c, one_by8, one_row, one_sq, one_grp, nums_len, one_alg, one_num] <;> omega)) only [go_sem, ↓reduceIte, Nat.reduceEqDiff, Int.reduceAdd, Int.reduceSub]
      obtain ⟨rfl, hgl⟩ := asc_unique (cl G x i) m g2 (cl_asc G x i) hc1 (fun v => by
        rw [hc2 v, hs v]
        constructor
        · rintro ⟨k, hk, e⟩
          refine ⟨conj G x k i, mem_cl.2 ⟨?_, k, hk, rfl⟩, by rw [← hfk k hk]; exact e⟩
          exact mul_lt hg (mul_lt hg hk hi) (inv_spec hg hk).1
        · rintro ⟨j, hj, e⟩
          obtain ⟨hj1, k, hk, e2⟩ := mem_cl.1 hj
          exact ⟨k, hk, by rw [hfk k hk, e2]; exact e⟩)
      refine up_own (upd_same ..) ⟨rfl, q, c, h1, c, x, rfl, rfl, hm, fun k hk => by rw [hh k hk, hgl k hk]⟩
end Go.Proofs.Ytbenllhoofoahaa

