/- The rule for one operation is sound; regions; code; functions. -/
import Derived.Test.YtbenllhoofoahaaVcD
namespace Go.Vc
open Go.RowKit
set_option linter.unusedVariables false
set_option linter.unusedSimpArgs false
variable {P : Program} {w0 w : World} {κ X ψ M : Mem} {n : Nat} {a : Act} {env : Env} {Q : Exit → Act → World → Prop}

/-- A state of the walk in which K holds. -/
def St (n : Nat) (w0 : World) (κ X : Mem) (K : VP) (a : Act) (w : World) : Prop :=
  ∃ env M ψ, EnvOk n a env ∧ Sat w0 κ X ψ M w ∧ K env M ψ

theorem wp_value {o : Oper} {v : Value} {w' : World} {K : Act → World → Prop} (hr : (execOp a.eval o).run P w = .ok (.value v) w') (h : K (a.put o.dst v) w') : o.wp P a w K Q := by
  unfold Oper.wp; rw [hr]; exact h
theorem wp_skip' {o : Oper} {w' : World} {K : Act → World → Prop} (hr : (execOp a.eval o).run P w = .ok .skip w') (h : K (a.put o.dst undef) w') : o.wp P a w K Q := by
  unfold Oper.wp; rw [hr]; exact h

theorem run_val {A : Mem} {ρ : Operand → Value} {o : Oper} {v : Value} (h : val P A ρ o.op = some v) (hA : ∀ b e, A b = some e → Knows w b e) : (execOp ρ o).run P w = .ok (.value v) w := by
  obtain ⟨dst, op, ty, pos, after, guard⟩ := o
  cases op
  case load t x => simp only [val] at h; simp [execOp, run_load h hA]
  all_goals (refine run_pv ?_ w; exact h)

theorem VCall_sound {fv : Value} {args : Array Value} {K : Value → Mem → Mem → Prop} (h : VCall P κ fv args K M ψ) (hs : Sat w0 κ X ψ M w) :
    ∃ id first cap, fv = .func (.func id) first cap ∧ callOk P id = true ∧ Calls P id (first ++ args ++ cap) w fun e w' => ∃ v M' ψ', e = .returned v ∧ Sat w0 κ X ψ' M' w' ∧ K v M' ψ' := by
  obtain ⟨L, Mr, R, hsp, hc, hk⟩ := h
  unfold CallsF at hc
  split at hc
  · rename_i id first cap
    refine ⟨id, first, cap, rfl, hc.1, (hc.2 w (hs.lend hsp)).mono ?_⟩
    rintro e w' ⟨v, M', ψ', he, hR, hs'⟩
    exact ⟨v, _, _, he, hs.back hsp hs', hk v M' ψ' hR (hs.apart hsp hs')⟩
  · cases hc

theorem run_builtS {t : TypeId} {len : Nat} {parts : List (Nat × Value)} {e : TypeId} {cs : List Value} (h : builtS P t len parts = some (e, cs)) (w : World) :
    (Instr.buildSlice t len parts.toArray).run P w = .ok (.slice (some ⟨w.heap.size, 0, none⟩) len len) (w.alloc (.cells cs.toArray e)) := by
  unfold builtS at h
  split at h
  · rename_i e' hu
    split at h
    · rename_i hle
      split at h
      · rename_i i z hi hz
        simp only [Option.map_eq_some_iff] at h
        obtain ⟨c, hc, hec⟩ := h
        simp only [Prod.mk.injEq] at hec
        obtain ⟨rfl, rfl⟩ := hec
        have hle' : ¬ (2 ^ 24 < len * P.cellsOf e') := by omega
        by_cases h0 : len * P.cellsOf e' = 0
        · rw [if_pos h0] at hz
          simp only [Option.some.injEq] at hz
          subst hz
          simp [Instr.buildSlice, run_underlying hu, run_sizeOf hi, h0, newRow, newObj, Sem.run] at hc ⊢
          rw [hc]; simp [Sem.run]
        · rw [if_neg h0] at hz
          simp only [hi, Option.bind_some, Option.map_eq_some_iff] at hz
          obtain ⟨zz, hzz, rfl⟩ := hz
          simp only [Instr.buildSlice]
          simp only [Sem.run_bind, run_underlying hu, Result.andThen_ok, run_sizeOf hi]
          rw [if_neg hle']
          simp only [h0, if_false, zeroValue, typeInfo, Sem.run_bind, program, Sem.run, Result.andThen_ok, hi, hzz, Sem.run_pure, hc]
          simp [newRow, newObj, Sem.run, hc]
      · cases h
    · cases h
  · cases h

theorem run_makeS {t : TypeId} {l c : Value} {e : TypeId} {cs : List Value} {k m : Nat} (h : makeS P t l c = some (e, cs, k, m)) (w : World) :
    (Instr.makeSlice t l c).run P w = .ok (.slice (some ⟨w.heap.size, 0, none⟩) k m) (w.alloc (.cells cs.toArray e)) := by
  unfold makeS at h
  split at h
  · rename_i e' kl l' kc c' hu
    split at h
    · rename_i i z hi hz
      split at h
      · rename_i hb
        obtain ⟨b1, b2, b3, b4⟩ := hb
        simp only [Option.some.injEq, Prod.mk.injEq] at h
        obtain ⟨rfl, rfl, rfl, rfl⟩ := h
        rw [Array.toArray_toList]
        have w1 : IntKind.i64.wrap l' = l' := by simp [IntKind.wrap, IntKind.bits, IntKind.signed]; omega
        have w2 : IntKind.i64.wrap c' = c' := by simp [IntKind.wrap, IntKind.bits, IntKind.signed]; omega
        have t1 : ¬ (c' < 0) := by omega
        have t2 : ¬ (281474976710656 < (i.bytes : Int) * c') := by omega
        have t3 : ¬ (l' < 0) := by omega
        have t4 : ¬ (c' < l') := by omega
        have hask : ∀ (w : World), (askRoom (c'.toNat * i.bytes)).run P w = .ok () w := by
          intro w; unfold askRoom; split <;> rfl
        by_cases h0 : c'.toNat * P.cellsOf e' = 0
        · rw [if_pos h0] at hz
          simp only [Option.some.injEq] at hz
          subst hz
          simp only [Instr.makeSlice, asInt, asIntOf, Sem.run_bind, run_underlying hu, Result.andThen_ok, Sem.run_pure, w1, w2, typeInfo, program, Sem.run, hi, run_sizeOf hi, h0]
          simp [t1, t2, t3, t4, hask, newRow, run_sizeOf hi, h0, Array.range_zero']
        · rw [if_neg h0] at hz
          simp only [hi, Option.bind_some, Option.map_eq_some_iff] at hz
          obtain ⟨zz, hzz, rfl⟩ := hz
          simp only [Instr.makeSlice, asInt, asIntOf, Sem.run_bind, run_underlying hu, Result.andThen_ok, Sem.run_pure, w1, w2, typeInfo, program, Sem.run, hi, run_sizeOf hi]
          simp [t1, t2, t3, t4, hask, newRow, h0, zeroValue, typeInfo, hi, hzz, run_sizeOf hi]
      · cases h
    · cases h
  · cases h

theorem run_zeroOf {t : TypeId} {cs : List Value} (h : zeroOf P t = some cs) (w : World) : (Instr.alloc t true (.tuple #[])).run P w = .ok (ptr w.heap.size) (w.alloc (.cells cs.toArray t)) := by
  unfold zeroOf at h
  simp only [Option.map_eq_some_iff, Option.bind_eq_some_iff] at h
  obtain ⟨z, ⟨i, hi, hz⟩, rfl⟩ := h
  simp [Instr.alloc, zeroValue, typeInfo, hi, hz, newVar, newRow, ptr]

theorem Sat.allocS (h : Sat w0 κ X ψ M w) (cs sp : List Value) (t : TypeId) (tot : Nat) (ht : cs.length + sp.length = tot) :
    Sat w0 κ X ψ (upd M w.heap.size (some ⟨t, cs, tot⟩)) (w.alloc (.cells (cs ++ sp).toArray t)) := by
  have h1 := h.alloc (cs ++ sp) t
  refine ⟨h1.same, fun b e he => ?_, fun b e he => ?_, h1.known⟩
  · by_cases hb : b = w.heap.size
    · subst hb
      have h2 := h1.own w.heap.size _ (upd_same _ _ _)
      rw [upd_same] at he
      simp only [Option.some.injEq] at he
      subst he
      exact ⟨h2.1, sp, by rw [heap_alloc_new], ht⟩
    · rw [upd_ne hb] at he
      exact h1.own b e (by rw [upd_ne hb]; exact he)
  · obtain ⟨h2, h3, h4⟩ := h1.laid b e he
    refine ⟨h2, h3, ?_⟩
    by_cases hb : b = w.heap.size
    · subst hb; rw [upd_same] at h4; cases h4
    · rw [upd_ne hb] at h4 ⊢; exact h4
theorem Sat.row (h : Sat w0 κ X ψ M w) {g : Nat} {en : Ent} (hg : M g = some en) (cs sp : List Value) (tot : Nat) (ht : cs.length + sp.length = tot) :
    Sat w0 κ X ψ (upd M g (some ⟨en.ty, cs, tot⟩)) (w.setRow g (cs ++ sp).toArray) := by
  obtain ⟨hB, sp0, hh, hs0⟩ := h.own g en hg
  refine ⟨h.same.trans ⟨rfl, rfl, rfl, by simp, fun k hk hx => setRow_other w g k _ (fun e => by subst e; rcases hB with hB | hB; omega; exact hB hx)⟩, fun b e he => ?_, fun b e he => ?_, h.known⟩
  · by_cases hb : b = g
    · subst hb
      rw [upd_same] at he
      simp only [Option.some.injEq] at he
      subst he
      exact ⟨hB, sp, setRow_heap w b _ _ _ _ hh, ht⟩
    · rw [upd_ne hb] at he
      exact ⟨(h.own b e he).1, (h.own b e he).2.of_same (setRow_other w g b _ hb)⟩
  · have hb : b ≠ g := fun e' => by subst e'; rw [(h.laid b e he).2.2] at hg; cases hg
    exact ⟨(h.laid b e he).1, (h.laid b e he).2.1.of_same (setRow_other w g b _ hb), by rw [upd_ne hb]; exact (h.laid b e he).2.2⟩
theorem Sat.drop (h : Sat w0 κ X ψ M w) (g : Nat) : Sat w0 κ X ψ (upd M g none) w := by
  refine h.less (fun k x hk => ?_) (fun k x hk => ⟨.inl hk, ?_⟩)
  · by_cases hb : k = g
    · subst hb; rw [upd_same] at hk; cases hk
    · rwa [upd_ne hb] at hk
  · by_cases hb : k = g
    · subst hb; rw [upd_same]
    · rw [upd_ne hb]; exact (h.laid k x hk).2.2
theorem Sat.mine (h : Sat w0 κ X ψ M w) {g : Nat} {en : Ent} (hg : M g = some en) : Fresh κ ψ (upd M g none) g := by
  refine ⟨upd_same _ _ _, ?_, ?_⟩
  · cases hp : ψ g with
    | none => rfl
    | some x => rw [(h.laid g x hp).2.2] at hg; cases hg
  · cases hp : κ g with
    | none => rfl
    | some x =>
      obtain ⟨h3, h4, _⟩ := h.known g x hp
      rcases (h.own g en hg).1 with h5 | h5
      · omega
      · exact absurd h4 h5

theorem VAppend_sound {t ty : TypeId} {s x : Value} {K : Value → Mem → Mem → Prop} (h : VAppend P κ t s x K M ψ) (hs : Sat w0 κ X ψ M w) :
    ∃ v M' ψ' w', (Builtin.append_ #[t, t] ty #[s, x]).run P w = .ok v w' ∧ Sat w0 κ X ψ' M' w' ∧ K v M' ψ' := by
  obtain ⟨e, hu, hok, m, xs, hx, hone, n, cs, M1, hown, hpos, hby, hml, hk⟩ := h
  unfold appendOk at hok
  cases hi : P.info? e with
  | none => simp [hi] at hok
  | some i =>
    simp only [hi] at hok
    cases hz : i.zero with
    | none => simp [hz] at hok
    | some z =>
      simp only [hz, Bool.and_eq_true, beq_iff_eq, decide_eq_true_eq] at hok
      obtain ⟨hzs, hsz⟩ := hok
      have hce : P.cellsOf e = i.size := by simp [Program.cellsOf, hi]
      have hbe : P.bytesOf e = i.bytes := by simp [Program.bytesOf, hi]
      rw [hbe] at hby
      have h63 : ((n + m : Nat) : Int) ≤ 9223372036854775807 := by simp only [maxLen] at hml; omega
      unfold readS at hx
      split at hx <;> try (cases hx; done)
      rename_i b o m' c
      split at hx <;> try (cases hx; done)
      rename_i en hen
      split at hx <;> try (cases hx; done)
      rename_i hlen
      simp only [Option.some.injEq, Prod.mk.injEq] at hx
      obtain ⟨rfl, hxs⟩ := hx
      have hkn := hs.knows hen
      have hnews : ∀ j u, xs[j]? = some u → w.cell? ((⟨b, o, none⟩ : Addr).add j) = some u := by
        intro j u hj
        rw [Addr.add_mid]
        refine hkn.cell ?_
        rw [← hxs, List.getElem?_take] at hj
        split at hj
        · rwa [List.getElem?_drop] at hj
        · cases hj
      have hxl : xs.length = m' * i.size := by rw [← hxs, ← hce]; simp; omega
      have hone' : ∀ u ∈ xs, u.oneCell' = true := by simpa [List.all_eq_true] using hone
      unfold ownS at hown
      split at hown
      · simp only [Option.some.injEq, Prod.mk.injEq] at hown
        obtain ⟨rfl, rfl, rfl⟩ := hown
        have hm : 0 < m' := hpos rfl
        have hr := run_append_nil (P := P) w t ty e i z hu hi hz ⟨b, o, none⟩ m' c xs hxl hnews hm (by simpa using h63) (by simp only [Nat.zero_add] at hby; omega)
        have hge := grownCap_ge w m' 0 e
        have hcm := grownCap_le_maxLen w m' 0 e (by simpa using hml)
        have hs3 := (hs.drew).allocS xs (Builtin.zeroCells z.cells (grownCap w m' 0 e - m')).toList e (grownCap w m' 0 e * i.size) (by
          rw [hxl]; simp only [Array.length_toList, size_zeroCells, hzs, ← Nat.add_mul]; congr 1; omega)
        refine ⟨_, upd M w.heap.size (some ⟨e, xs, grownCap w m' 0 e * i.size⟩), ψ, _, hr, ?_, ?_⟩
        · have e1 : (xs ++ (Builtin.zeroCells z.cells (grownCap w m' 0 e - m')).toList).toArray = xs.toArray ++ Builtin.zeroCells z.cells (grownCap w m' 0 e - m') := by simp
          rw [e1] at hs3
          exact hs3
        · have := hk w.heap.size (grownCap w m' 0 e) (hs.fresh (Nat.le_refl _)) (by omega) hcm
          simp only [Nat.zero_add, List.nil_append, hce] at this
          exact this
      · rename_i g n' c'
        split at hown
        · rename_i en' hen'
          split at hown
          · rename_i hc5
            obtain ⟨q1, q2, q3, q4, q5⟩ := hc5
            simp only [Option.some.injEq, Prod.mk.injEq] at hown
            obtain ⟨rfl, rfl, rfl⟩ := hown
            obtain ⟨hB, sp, hh, hsp⟩ := hs.own _ _ hen'
            have hcl : en'.cs.length = n' * i.size := by rw [q2, hce]
            by_cases hroom : n' + m' ≤ c'
            · have hmul : (n' + m') * i.size ≤ c' * i.size := Nat.mul_le_mul_right _ hroom
              have hfit : n' * i.size + xs.length ≤ (en'.cs ++ sp).toArray.size := by
                simp only [List.size_toArray, List.length_append, hsp, q3, hce, hxl, ← Nat.add_mul]; exact hmul
              have hr := run_append_room (P := P) w t ty e i hu hi g n' c' _ (by rw [← q1]; exact hh) ⟨b, o, none⟩ m' c xs hxl hnews hone' hroom hfit
              have e1 : ((en'.cs ++ sp).toArray.toList.take (n' * i.size) ++ xs ++ (en'.cs ++ sp).toArray.toList.drop (n' * i.size + xs.length)) = (en'.cs ++ xs) ++ sp.drop xs.length := by
                simp only [List.toList_toArray]
                rw [← hcl, List.take_left, List.drop_append]
                simp
              rw [e1] at hr
              have hs3 := hs.row hen' (en'.cs ++ xs) (sp.drop xs.length) (c' * i.size) (by
                simp only [List.length_append, List.length_drop, hcl, hxl]
                have : sp.length = c' * i.size - n' * i.size := by rw [← hce, ← q3, ← q2]; omega
                rw [this]
                have h5 := hmul
                rw [Nat.add_mul] at h5
                omega)
              refine ⟨_, _, ψ, _, hr, hs3, ?_⟩
              have := hk g c' (hs.mine hen') hroom q5
              rw [upd_upd, hce, ← q1] at this
              exact this
            · have holds : ∀ j u, en'.cs[j]? = some u → w.cell? ((⟨g, 0, none⟩ : Addr).add j) = some u := fun j u hj => by
                rw [Addr.add_mid]; simp only [Nat.zero_add]; exact (hs.own _ _ hen').2.knows.cell hj
              have hr := run_append_grow (P := P) w t ty e i z hu hi hz ⟨g, 0, none⟩ n' c' en'.cs hcl holds ⟨b, o, none⟩ m' c xs hxl hnews (by omega) (by omega) (growslice_fits (by omega) hby)
              have hge := grownCap_ge w (n' + m') c' e
              have hcm := grownCap_le_maxLen w (n' + m') c' e hml
              have hs3 := ((hs.drop g).drew).allocS (en'.cs ++ xs) (Builtin.zeroCells z.cells (grownCap w (n' + m') c' e - (n' + m'))).toList e (grownCap w (n' + m') c' e * i.size) (by
                simp only [List.length_append, hcl, hxl, Array.length_toList, size_zeroCells, hzs, ← Nat.add_mul]; congr 1; omega)
              refine ⟨_, upd (upd M g none) w.heap.size (some ⟨e, en'.cs ++ xs, grownCap w (n' + m') c' e * i.size⟩), ψ, _, hr, ?_, ?_⟩
              · have e1 : (en'.cs ++ xs ++ (Builtin.zeroCells z.cells (grownCap w (n' + m') c' e - (n' + m'))).toList).toArray = en'.cs.toArray ++ xs.toArray ++ Builtin.zeroCells z.cells (grownCap w (n' + m') c' e - (n' + m')) := by simp
                rw [e1] at hs3
                exact hs3
              · have := hk w.heap.size (grownCap w (n' + m') c' e) ((hs.drop g).fresh (Nat.le_refl _)) hge hcm
                rw [hce] at this
                exact this
          · cases hown
        · cases hown
      · cases hown
end Go.Vc
