/- The class algebra: tables that are filled place by place, and counts. -/
import Derived.Test.YtbenllhoofoahaaFnN
namespace Go.Proofs.Ytbenllhoofoahaa
set_option linter.unusedSimpArgs false
set_option linter.unusedVariables false
open Go Go.Vc
/-- A table that is filled up to a place. -/
def pT (N : Nat) (V : Nat → Nat → Nat → UInt8) (i j k a b c : Nat) : UInt8 := if (a < i ∨ (a = i ∧ (b < j ∨ (b = j ∧ c < k)))) ∧ b < N ∧ c < N then V a b c else 0
theorem pT_set (N : Nat) (V : Nat → Nat → Nat → UInt8) (i j k : Nat) (hj : j < N) (hk : k < N) : set3 (pT N V i j k) i j k (V i j k) = pT N V i j (k + 1) := by
  funext a b c
  unfold set3 pT
  by_cases h : a = i ∧ b = j ∧ c = k
  · obtain ⟨rfl, rfl, rfl⟩ := h
    rw [if_pos ⟨rfl, rfl, rfl⟩, if_pos ⟨.inr ⟨rfl, .inr ⟨rfl, by omega⟩⟩, hj, hk⟩]
  · rw [if_neg h]
    congr 1
    apply propext
    constructor
    · rintro ⟨h1, h2, h3⟩; exact ⟨by omega, h2, h3⟩
    · rintro ⟨h1, h2, h3⟩
      refine ⟨?_, h2, h3⟩
      by_cases hb : a = i ∧ b = j
      · obtain ⟨rfl, rfl⟩ := hb
        have : c ≠ k := fun e => h ⟨rfl, rfl, e⟩
        omega
      · omega
theorem pT_row (N : Nat) (V : Nat → Nat → Nat → UInt8) (i j : Nat) : pT N V i j N = pT N V i (j + 1) 0 := by
  funext a b c
  unfold pT
  congr 1
  apply propext
  constructor <;> (rintro ⟨h1, h2, h3⟩; exact ⟨by omega, h2, h3⟩)
theorem pT_sheet (N : Nat) (V : Nat → Nat → Nat → UInt8) (i : Nat) : pT N V i N 0 = pT N V (i + 1) 0 0 := by
  funext a b c
  unfold pT
  congr 1
  apply propext
  constructor <;> (rintro ⟨h1, h2, h3⟩; exact ⟨by omega, h2, h3⟩)
theorem pT_0 (N : Nat) (V : Nat → Nat → Nat → UInt8) : pT N V 0 0 0 = fun _ _ _ => 0 := by
  funext a b c
  unfold pT
  rw [if_neg (by rintro ⟨h, _⟩; omega)]
/-- How often a product is the first of e. -/
def hit (G : Grp) (c d e : List Nat) (x y : Nat) : Nat := if mul G (c.getD x 0) (d.getD y 0) = e.getD 0 0 then 1 else 0
def rowCnt (G : Grp) (c d e : List Nat) (x : Nat) : Nat → Nat
  | 0 => 0
  | y + 1 => rowCnt G c d e x y + hit G c d e x y
def allCnt (G : Grp) (c d e : List Nat) : Nat → Nat
  | 0 => 0
  | x + 1 => allCnt G c d e x + rowCnt G c d e x d.length
theorem hit_le (G : Grp) (c d e : List Nat) (x y : Nat) : hit G c d e x y ≤ 1 := by unfold hit; split <;> omega
theorem rowCnt_le (G : Grp) (c d e : List Nat) (x : Nat) : ∀ y, rowCnt G c d e x y ≤ y
  | 0 => Nat.le_refl _
  | y + 1 => by have h1 := rowCnt_le G c d e x y; have h2 := hit_le G c d e x y; unfold rowCnt; omega
theorem allCnt_le (G : Grp) (c d e : List Nat) (hd : d.length ≤ 6) : ∀ x, allCnt G c d e x ≤ 6 * x
  | 0 => Nat.le_refl _
  | x + 1 => by have h1 := allCnt_le G c d e hd x; have h2 := rowCnt_le G c d e x d.length; unfold allCnt; omega
/-- The class algebra's table. -/
def cV (p : Nat) (G : Grp) (L : List (List Nat)) (i j k : Nat) : UInt8 := UInt8.ofNat (allCnt G (L.getD i []) (L.getD j []) (L.getD k []) (L.getD i []).length % p)
theorem cV_toNat {p : Nat} (hp : 2 ≤ p ∧ p ≤ 13) (G : Grp) (L : List (List Nat)) (i j k : Nat) : (cV p G L i j k).toNat = allCnt G (L.getD i []) (L.getD j []) (L.getD k []) (L.getD i []).length % p := by
  unfold cV
  generalize allCnt G (L.getD i []) (L.getD j []) (L.getD k []) (L.getD i []).length = z
  have : z % p < p := Nat.mod_lt _ (by omega)
  rw [UInt8.toNat_ofNat']; omega
def cAlg (p : Nat) (G : Grp) (n : Nat) (F : Nat → UInt8) : Alg := ⟨p, (clsUp G n n).length, pT (clsUp G n n).length (cV p G (clsUp G n n)) (clsUp G n n).length 0 0, F⟩
theorem clUp_all (G : Grp) (n i : Nat) : clUp G n i n = cl G n i := rfl
theorem cl_len (G : Grp) (n i : Nat) : (cl G n i).length ≤ n := clUp_len G n i n
theorem cls_mem {G : Grp} {n : Nat} {k : Nat} {l : List Nat} (h : (clsUp G n n)[k]? = some l) : ∃ i < n, l = cl G n i := by
  have := List.mem_of_getElem? h
  simp only [clsUp, List.mem_map, List.mem_filter, List.mem_range] at this
  obtain ⟨i, ⟨hi, _⟩, e⟩ := this
  exact ⟨i, hi, e.symm⟩
end Go.Proofs.Ytbenllhoofoahaa

