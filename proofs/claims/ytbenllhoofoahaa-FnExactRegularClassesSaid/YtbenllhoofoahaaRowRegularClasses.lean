/- FnExactRegularClasses: for every number, group and table of numbers, the program's RegularClasses returns what the reference's returns, shares no memory with its argument, and leaves it as it was. No conditions. -/
import Derived.Test.YtbenllhoofoahaaFnGG
import Derived.Test.YtbenllhoofoahaaVcO
import Derived.Test.YtbenllhoofoahaaRows
import Derived.WalkKit
import Derived.ProofKit
import Derived.OpenShut
namespace Go.Proofs.Ytbenllhoofoahaa.fnExactRegularClasses
open Go.ChangeShapes Go.WideShapes Go.ChangeAt Go.RowKit Go.Vc
set_option linter.unusedVariables false
set_option linter.unusedSimpArgs false
theorem own : ownKnob Try.prog.godebug = none := by kernel_rfl
theorem by6 : Bytes Try.prog 22 6 := bytes_array (n := 6) (m := 1) Try.underlying22 (by kernel_rfl) (by kernel_rfl) (bytes_u8 Try.underlying5)
theorem by36 : Bytes Try.prog 23 36 := bytes_array (n := 6) (m := 6) Try.underlying23 (by kernel_rfl) (by kernel_rfl) by6
set_option maxRecDepth 100000 in
theorem open_group {H : Type} {enc : TypeId × Value → H} {w : World} {base : Nat} {spare : Nat → Bool} {held : Bool} {r : Reach} {b0 : Nat} {v : Value} {d : DataW H} {p : List MemPlace}
    (hv : Value.okWide Try.prog w r b0 25 v) (h : DataW.Trod enc Try.prog w base spare held 25 v d p) : ∃ G, v = .agg (tab 37 (grpF G)).toArray := by
  obtain ⟨cs, rfl, hsz⟩ := okWide_struct Try.underlying25 hv
  obtain ⟨l⟩ := cs
  have hc : Try.prog.cellsOf 25 = 37 := by kernel_rfl
  rw [hc] at hsz
  obtain ⟨fuel, hf⟩ := h
  obtain ⟨y0, y1, n, _, hl, h0, h1⟩ := trod_struct2 Try.underlying25 hf
  obtain ⟨k, h0, _, _⟩ := DataW.trod_int Try.underlying2 h0
  have hc37 : l.length = 37 := by simpa using hsz
  clear hsz hv hf
  obtain ⟨R, h1⟩ := by36 h1
  have hc1 : Try.prog.cellsOf 2 = 1 := by kernel_rfl
  have hc2 : Try.prog.cellsOf 23 = 36 := by kernel_rfl
  have e0 : (l.drop 0).take 1 = tab 1 fun _ => i64 k := by rw [← hc1]; exact h0
  have e1 : (l.drop 1).take 36 = tab 36 fun k => by8 (R k) := by rw [← hc2]; exact h1
  refine ⟨⟨k, fun i j => R (i * 6 + j)⟩, ?_⟩
  congr 2
  refine tab_ext (m := 0) hc37 fun i hi => ?_
  by_cases h : i = 0
  · subst h; exact drop_get (k := 0) e0 (by omega)
  · obtain ⟨j, rfl⟩ : ∃ j, i = 1 + j := ⟨i - 1, by omega⟩
    rw [drop_get e1 (by omega)]
    unfold grpF sqF
    rw [if_neg h, show 1 + j - 1 = j by omega]
    show _ = some (by8 (R (j / 6 * 6 + j % 6)))
    rw [show j / 6 * 6 + j % 6 = j by omega]
set_option maxRecDepth 100000 in
theorem lifted (os : Os) (started : os.Started) (H : Type) (enc : TypeId × Value → H) :
    ReturnsInHanded {} Try.checked os 4 .any (Rows.fnExactRegularClassesSpec.pre6 enc Try.prog Try.f4 Rows.fnExactRegularClassesRow.domain false) (Rows.fnExactRegularClassesSpec.post enc Try.prog Try.f4 false true false false) := by
  refine returnsInHanded_of_change (C := Try.checked) own started (by kernel_rfl) Try.func4
    (ChangeSpec.witness6 (enc := enc) (C := Try.checked) false ⟨#[], #[.int .i64 0, .agg (Array.mk (.int .i64 0 :: List.replicate 36 (.int .u8 0))), .slice none 0 0], []⟩ 8 (by kernel_rfl) (by kernel_rfl) (by kernel_rfl) (by kernel_rfl)) ?_
  intro W base args ds gs before hval0 hW hcnd _
  have hval : ∀ (j : Nat) t v, Try.f4.params[j]? = some t → args[j]? = some v → Value.okWide Try.prog W .any base t v := hval0
  have hW' := hW
  obtain ⟨p, q, hA0, hV, rfl, hfz, hnd⟩ := hW
  have hA : DataW.TrodAll enc Try.prog W 0 (fun _ => true) true Try.f4.params.toList args.toList ds p := hA0
  rw [Try.params4] at hA hval
  obtain ⟨v0, vs0, d0, ds0, p0, q0, hargs, rfl, rfl, h0, r0⟩ := trodAll_cons hA
  obtain ⟨v1, vs1, d1, ds1, p1, q1, rfl, rfl, rfl, h1, r1⟩ := trodAll_cons r0
  obtain ⟨v2, vs2, d2, ds2, p2, q2, rfl, rfl, rfl, h2, r2⟩ := trodAll_cons r1
  obtain ⟨rfl, rfl, rfl⟩ := trodAll_nil r2
  obtain rfl : args = #[v0, v1, v2] := by cases args; simp_all
  obtain ⟨rfl, rfl⟩ := trodVars_none hV
  obtain ⟨a0, rfl, rfl, rfl, w0⟩ := open_int Try.underlying2 (hval 0 2 v0 rfl rfl) h0
  obtain ⟨a1, rfl⟩ := open_group (hval 1 25 v1 rfl rfl) h1
  obtain ⟨a2, ha2⟩ := open_tbl Try.underlying39 (by kernel_rfl) Try.underlying41 Try.underlying2 (by kernel_rfl) (slice_cells Try.underlying39 h2 (hval 2 39 v2 rfl rfl)) h2
  clear hA0 hval0
  simp only [List.append_nil] at hW'
  refine (calls_seen (law_regular _ a0 a1 v2 a2 ha2)).mono fun e W' ⟨he, hg⟩ => ?_
  subst he
  exact ⟨_, rfl, law_post (tb := 4) (by kernel_rfl) Try.underlying4 rfl rfl (by kernel_rfl) (fun hs e => by subst e; exact ⟨rfl, rfl, rfl⟩) hW' hg⟩
theorem over : Rows.fnExactRegularClassesRow.holds Try.pinned (OpenSpec.ofChange Rows.fnExactRegularClassesSpec) :=
  OpenClaim.holds_of_wide 4 Try.f4 rfl rfl rfl rfl rfl rfl rfl ⟨rfl, rfl, rfl, rfl, rfl⟩ rfl rfl rfl rfl rfl (by kernel_rfl) Try.func4 (by kernel_rfl)
    (of_decide_eq_true (by kernel_rfl)) (by unfold Func.isWrapper; first | (rw [if_pos (by decide +kernel)]; kernel_rfl) | (rw [if_neg (by decide +kernel)]; exact ⟨rfl, rfl⟩))
    (fun os started H enc _ => lifted os started H enc)
/-- The statement. -/
theorem proved : Rows.FnExactRegularClassesSaid := over
#print axioms proved
end Go.Proofs.Ytbenllhoofoahaa.fnExactRegularClasses

