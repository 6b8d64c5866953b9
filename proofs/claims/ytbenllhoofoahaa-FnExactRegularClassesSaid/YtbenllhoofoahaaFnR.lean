/- Pairs: cells. -/
import Derived.Test.YtbenllhoofoahaaFnQ
namespace Go.Proofs.Ytbenllhoofoahaa
set_option linter.unusedSimpArgs false
set_option linter.unusedVariables false
open Go Go.Vc
structure Pr where
  A : Alg
  B : Alg
  Z : Nat → Nat → UInt8
def pairF (x : Pr) (k : Nat) : Value := if k < 224 then algF x.A k else if k < 448 then algF x.B (k - 224) else by8 (x.Z ((k - 448) / 6) ((k - 448) % 6))
theorem one_pair (n) (x : Pr) : One n (pairF x) := fun k => by
  unfold pairF; split
  · exact one_alg 0 _ k
  · split
    · exact one_alg 0 _ _
    · rfl
theorem pairF_Z (x : Pr) (i j : Nat) (hj : j < 6) : pairF x (448 + i * 6 + j) = by8 (x.Z i j) := by
  unfold pairF
  rw [if_neg (by omega), if_neg (by omega), show (448 + i * 6 + j - 448) / 6 = i by omega, show (448 + i * 6 + j - 448) % 6 = j by omega]
def set2 (Z : Nat → Nat → UInt8) (i j : Nat) (v : UInt8) (a b : Nat) : UInt8 := if a = i ∧ b = j then v else Z a b
theorem pair_setZ (x : Pr) (i j : Nat) (v : UInt8) (hi : i < 6) (hj : j < 6) : tab 484 (upd (pairF x) (448 + i * 6 + j) (by8 v)) = tab 484 (pairF { x with Z := set2 x.Z i j v }) := tab_eq fun m hm => by
  by_cases h : m = 448 + i * 6 + j
  · subst h; rw [upd_same, pairF_Z _ _ _ hj]; simp [set2]
  · rw [upd_ne h]
    by_cases h1 : m < 448
    · unfold pairF
      by_cases h2 : m < 224
      · rw [if_pos h2, if_pos h2]
      · rw [if_neg h2, if_neg h2, if_pos h1, if_pos h1]
    · obtain ⟨a, b, hb, rfl⟩ : ∃ a b, b < 6 ∧ m = 448 + a * 6 + b := ⟨(m - 448) / 6, (m - 448) % 6, by omega, by omega⟩
      rw [pairF_Z _ _ _ hb, pairF_Z _ _ _ hb]
      have : ¬ (a = i ∧ b = j) := by rintro ⟨rfl, rfl⟩; exact h rfl
      simp [set2, this]
theorem pair_form (x : Pr) (v : UInt8) : tab 484 (upd (pairF x) 218 (by8 v)) = tab 484 (pairF { x with A := { x.A with F := upd x.A.F 0 v } }) := tab_eq fun m hm => by
  by_cases h : m = 218
  · subst h; rw [upd_same]; rfl
  · rw [upd_ne h]
    unfold pairF
    by_cases h2 : m < 224
    · rw [if_pos h2, if_pos h2]
      by_cases h3 : m < 218
      · unfold algF; simp only [h3, if_true]
      · obtain ⟨a, rfl⟩ : ∃ a, m = 218 + a := ⟨m - 218, by omega⟩
        rw [algF_F, algF_F]; show _ = by8 (upd x.A.F 0 v a); rw [upd_ne (by omega)]
    · rw [if_neg h2, if_neg h2]
theorem pair_made (A B : Alg) : (tab 484 fun k => if k < 224 then algF A k else if k < 448 then algF B (k - 224) else .int .u8 0) = tab 484 (pairF ⟨A, B, fun _ _ => 0⟩) := tab_eq fun k hk => rfl
theorem pair_row (x : Pr) (i : Nat) (r : Nat → UInt8) (hi : i < 6) : tab 484 (lay (pairF x) (448 + i * 6) 6 (rowF r)) = tab 484 (pairF { x with Z := fun a b => if a = i then r b else x.Z a b }) := tab_eq fun m hm => by
  by_cases h1 : m < 448
  · rw [lay_out (by omega)]
    unfold pairF
    by_cases h2 : m < 224
    · rw [if_pos h2, if_pos h2]
    · rw [if_neg h2, if_neg h2, if_pos h1, if_pos h1]
  · obtain ⟨a, b, hb, rfl⟩ : ∃ a b, b < 6 ∧ m = 448 + a * 6 + b := ⟨(m - 448) / 6, (m - 448) % 6, by omega, by omega⟩
    rw [pairF_Z _ _ _ hb]
    by_cases ha : a = i
    · subst ha; rw [lay_in ⟨by omega, by omega⟩, show 448 + a * 6 + b - (448 + a * 6) = b by omega]; simp [rowF]
    · rw [lay_out (by omega), pairF_Z _ _ _ hb]; simp [ha]
end Go.Proofs.Ytbenllhoofoahaa

