/- One operation, a region, code, a function: what is to be shown, and that it is enough. -/
import Derived.Test.YtbenllhoofoahaaVcE
namespace Go.Vc
open Go.RowKit
set_option linter.unusedVariables false
set_option linter.unusedSimpArgs false
variable {P : Program} {w0 w : World} {κ X ψ M : Mem} {n : Nat} {a : Act} {env : Env} {Q : Exit → Act → World → Prop}

theorem sat_alloc_list (hs : Sat w0 κ X ψ M w) (cs : List Value) (t : TypeId) : Sat w0 κ X ψ (upd M w.heap.size (some ⟨t, cs, cs.length⟩)) (w.alloc (.cells cs.toArray t)) := hs.alloc cs t

theorem run_clear {t : TypeId} {x : Value} {M' : Mem} (h : clearV P M t x = some M') (hs : Sat w0 κ X ψ M w) (ty : TypeId) :
    ∃ w', (Builtin.clear_ #[t] ty #[x]).run P w = .ok (.tuple #[]) w' ∧ Sat w0 κ X ψ M' w' := by
  unfold clearV at h
  split at h
  · rename_i e b o n c hu
    split at h
    · rename_i hn
      subst hn
      simp only [Option.some.injEq] at h; subst h
      exact ⟨w, by simp [Builtin.clear_, run_underlying hu], hs⟩
    · rename_i hn
      split at h
      · rename_i z en hz he
        split at h
        · rename_i hc
          simp only [Option.some.injEq] at h; subst h
          have hown := (hs.own b en he).2
          have hkn := hown.knows
          obtain ⟨i, hi, hzi⟩ := Option.bind_eq_some_iff.1 hz
          refine ⟨w.setCells b o (Builtin.zeroCells z.cells n).toList, ?_, hs.store he hc.1⟩
          have hst := run_storeCells_cells (P := P) b o (Builtin.zeroCells z.cells n).toList 0 w (fun j hj => by
            have hlt : o + j < en.cs.length := by omega
            rw [Nat.add_zero, hkn.cell (List.getElem?_eq_getElem hlt)]; rfl) (fun j hj => hown.free _) (List.all_eq_true.1 hc.2)
          rw [Nat.add_zero] at hst
          have hn' : ∃ k, n = k + 1 := ⟨n - 1, by omega⟩
          obtain ⟨k, rfl⟩ := hn'
          simp [Builtin.clear_, run_underlying hu, zeroValue, typeInfo, hi, hzi, hst]
        · cases h
      · cases h
  · cases h
theorem vcRaw_sound {lend : Bool} {o : Oper} {K : VP} (h : vcRaw P κ lend o.op (ev env) (fun v => K (setd env o.dst v)) M ψ) (hs : Sat w0 κ X ψ M w) (he : EnvOk n a env) (hd : ∀ t, o.dst = some t → t < n) :
    o.wp P a w (St n w0 κ X K) Q := by
  have hev := he.eval
  have hf : Fresh κ ψ M w.heap.size := hs.fresh (Nat.le_refl _)
  have hA : ∀ b e, all κ ψ M b = some e → Knows w b e := fun b e hb => hs.knows hb
  have hval : ∀ v, val P (all κ ψ M) (ev env) o.op = some v → K (setd env o.dst v) M ψ → o.wp P a w (St n w0 κ X K) Q := fun v hv hk =>
    wp_value (by rw [hev]; exact run_val hv hA) ⟨_, _, _, he.put hd v, hs, hk⟩
  unfold vcRaw at h
  split at h
  · rename_i t x y ho
    obtain ⟨M', h1, h2⟩ := h
    obtain ⟨w', hr, hs'⟩ := run_store h1 hs
    exact wp_skip' (by rw [hev]; simp [execOp, ho, hr]) ⟨_, _, _, he.put hd undef, hs', h2⟩
  · rename_i t ho
    obtain ⟨cs, h1, h2⟩ := h
    exact wp_value (by rw [hev]; simp [execOp, ho, run_zeroOf h1 w]) ⟨_, _, _, he.put hd _, hs.alloc cs t, h2 _ hf⟩
  · rename_i t x ho
    have e1 : (ev env x).cells.toList.toArray = (ev env x).cells := by simp
    refine wp_value (v := ptr w.heap.size) (w' := w.alloc (.cells (ev env x).cells.toList.toArray t)) ?_ ⟨_, _, _, he.put hd _, hs.alloc _ t, h _ hf⟩
    rw [hev, e1]; simp [execOp, ho, Instr.box, newVar, newRow, ptr]
  · rename_i t len parts ho
    obtain ⟨e, cs, h1, h2⟩ := h
    refine wp_value ?_ ⟨_, _, _, he.put hd _, hs.alloc cs e, h2 _ hf⟩
    rw [hev]
    have := run_builtS h1 w
    rw [Array.toArray_toList] at this
    simp only [execOp, ho, Sem.run_bind, this, Result.andThen_ok, Sem.run_pure]
  · rename_i t l c ho
    obtain ⟨e, cs, k, m, h1, h2⟩ := h
    refine wp_value ?_ ⟨_, _, _, he.put hd _, hs.alloc cs e, h2 _ hf⟩
    rw [hev]
    simp only [execOp, ho, Sem.run_bind, run_makeS h1 w, Result.andThen_ok, Sem.run_pure]
  · rename_i f args ts ho
    have h : VCall P κ (ev env f) (args.map (ev env)) (fun v => K (setd env o.dst v)) M ψ := by
      split at h
      · exact h
      · exact h.vcall
    obtain ⟨id, first, cap, hfv, hok, hc⟩ := VCall_sound h hs
    have hr := run_callF hfv hok (ev env) f args ts o ho rfl rfl w
    unfold Oper.wp
    rw [hev, hr]
    show Calls P id _ w _
    refine hc.mono ?_
    rintro e w' ⟨v, M', ψ', rfl, hs', hk⟩
    exact ⟨_, _, _, he.put hd v, hs', hk⟩
  · rename_i args ts ho
    split at h
    · rename_i s x t t' hl hl2
      obtain ⟨rfl, h⟩ := h
      obtain ⟨v, M', ψ', w', hr, hs', hk⟩ := VAppend_sound (ty := o.type) h hs
      have ea : args = #[s, x] := by rw [← Array.toArray_toList (xs := args), hl]
      have et : ts = #[t, t] := by rw [← Array.toArray_toList (xs := ts), hl2]
      subst ea et
      refine wp_value (v := v) (w' := w') ?_ ⟨_, _, _, he.put hd v, hs', hk⟩
      rw [hev]
      simp [execOp, ho, resolve, invoke, builtin, hr]
    · cases h
  · rename_i args ts ho
    split at h
    · rename_i x t hl hl2
      obtain ⟨M', h1, hk⟩ := h
      obtain ⟨w', hr, hs'⟩ := run_clear h1 hs o.type
      have ea : args = #[x] := by rw [← Array.toArray_toList (xs := args), hl]
      have et : ts = #[t] := by rw [← Array.toArray_toList (xs := ts), hl2]
      subst ea et
      refine wp_value (v := .tuple #[]) (w' := w') ?_ ⟨_, _, _, he.put hd _, hs', hk⟩
      rw [hev]
      simp [execOp, ho, resolve, invoke, builtin, hr]
    · cases h
  · obtain ⟨v, h1, h2⟩ := h
    exact hval v h1 h2

theorem vcOp_sound {o : Oper} {K : VP} (h : vcOp P κ o K env M ψ) (hs : Sat w0 κ X ψ M w) (he : EnvOk n a env) (hd : ∀ t, o.dst = some t → t < n) :
    o.wp P a w (St n w0 κ X K) Q := vcRaw_sound (K := K) h hs he hd

/-! ### Regions whose order is that of the text -/
/-- A guarded operation that only looks, or is split on. -/
def looks : Op → Bool
  | .store .. | .alloc .. | .box .. | .buildSlice .. | .makeSlice .. => false
  | .call { callee := .value _, .. } => false
  | .call { callee := .builtin .append, .. } => false
  | .call { callee := .builtin .clear, .. } => false
  | _ => true
def boolOf : Value → Option Bool
  | .bool b => some b
  | _ => none
def vcG (P : Program) (κ : Mem) (lend : Bool) (ops : Array Oper) (o : Oper) (K : VP) : VP := fun env M ψ =>
  match o.guard with
  | none => vcRaw P κ lend o.op (ev env) (fun v => K (setd env o.dst v)) M ψ
  | some (j, want) =>
    match (ops[j]?).bind (·.dst) with
    | none => False
    | some d => ∃ b, boolOf (env d) = b ∧
      (if looks o.op = true then
        (b = some want → (val P (all κ ψ M) (ev env) o.op).isSome = true) ∧
          K (setd env o.dst (if b = some want then (val P (all κ ψ M) (ev env) o.op).getD undef else undef)) M ψ
      else (b = some want → vcRaw P κ lend o.op (ev env) (fun v => K (setd env o.dst v)) M ψ) ∧ (b ≠ some want → K (setd env o.dst undef) M ψ))
def vcOps (P : Program) (κ : Mem) (ops : Array Oper) (K : VP) : List Oper → VP
  | [] => K
  | o :: r => vcG P κ true ops o (vcOps P κ ops K r)

theorem wanted_of {ops : Array Oper} {o : Oper} {j : Nat} {want : Bool} {b : Option Bool} {d : Tmp} (hg : o.guard = some (j, want)) (hd : (ops[j]?).bind (·.dst) = some d) (he : EnvOk n a env) (hb : boolOf (env d) = b) :
    Region.wanted o (yielded ops a.tmps) = (b == some want) := by
  have h1 := he.get d
  rw [Array.getD_eq_getD_getElem?] at h1
  simp only [Region.wanted, hg, yielded, hd, Option.bind_some]
  subst hb
  cases h2 : a.tmps[d]? with
  | none =>
    rw [h2] at h1
    rw [← h1]; rfl
  | some v =>
    rw [h2] at h1
    rw [← h1]
    cases v <;> rfl
theorem vcG_sound {lend : Bool} {ops : Array Oper} {o : Oper} {K : VP} (h : vcG P κ lend ops o K env M ψ) (hs : Sat w0 κ X ψ M w) (he : EnvOk n a env) (hd : ∀ t, o.dst = some t → t < n) :
    if Region.wanted o (yielded ops a.tmps) = true then o.wp P a w (St n w0 κ X K) Q else St n w0 κ X K (a.put o.dst undef) w := by
  have hrun : vcRaw P κ lend o.op (ev env) (fun v => K (setd env o.dst v)) M ψ → o.wp P a w (St n w0 κ X K) Q := fun h => vcRaw_sound h hs he hd
  unfold vcG at h
  cases hg : o.guard with
  | none =>
    simp only [hg] at h
    rw [if_pos (by simp [Region.wanted, hg])]
    exact hrun h
  | some jw =>
    obtain ⟨j, want⟩ := jw
    simp only [hg] at h
    cases hdd : (ops[j]?).bind (·.dst) with
    | none => rw [hdd] at h; exact h.elim
    | some d =>
      rw [hdd] at h
      obtain ⟨b, hb, h⟩ := h
      have hw := wanted_of hg hdd he hb
      rw [hw]
      by_cases hlk : looks o.op = true
      · rw [if_pos hlk] at h
        obtain ⟨h1, h2⟩ := h
        by_cases hbw : b = some want
        · subst hbw
          obtain ⟨v, hv⟩ := Option.isSome_iff_exists.1 (h1 rfl)
          rw [if_pos rfl, hv] at h2
          rw [if_pos (by simp)]
          exact wp_value (by rw [he.eval]; exact run_val hv fun b e hb => hs.knows hb) ⟨_, _, _, he.put hd v, hs, h2⟩
        · rw [if_neg hbw] at h2
          rw [if_neg (by simpa using hbw)]
          exact ⟨_, _, _, he.put hd _, hs, h2⟩
      · rw [if_neg hlk] at h
        by_cases hbw : b = some want
        · rw [if_pos (by simpa using hbw)]
          exact hrun (h.1 hbw)
        · rw [if_neg (by simpa using hbw)]
          exact ⟨_, _, _, he.put hd _, hs, h.2 hbw⟩

theorem vcOps_sound {ops : Array Oper} {K : VP} (hK : ∀ a w, St n w0 κ X K a w → Q .normal a w) : ∀ (l : List Oper) (env : Env) (M ψ : Mem) (a : Act) (w : World),
    vcOps P κ ops K l env M ψ → Sat w0 κ X ψ M w → EnvOk n a env → (∀ o ∈ l, ∀ t, o.dst = some t → t < n) → wpList P ops Q l a w
  | [], env, M, ψ, a, w, h, hs, he, hd => hK a w ⟨env, M, ψ, he, hs, h⟩
  | o :: r, env, M, ψ, a, w, h, hs, he, hd => by
    have ih : ∀ a w, St n w0 κ X (vcOps P κ ops K r) a w → wpList P ops Q r a w := fun a w ⟨env', M', ψ', he', hs', hk⟩ =>
      vcOps_sound hK r env' M' ψ' a w hk hs' he' fun o' h' => hd o' (by simp [h'])
    have h1 := vcG_sound (Q := Q) h hs he (hd o (by simp))
    unfold wpList
    split
    · rename_i hw
      rw [if_pos hw] at h1
      exact .inl (Oper.wp_mono ih h1)
    · rename_i hw
      rw [if_neg hw] at h1
      exact ih _ _ h1

/-! ### More is known behind: the frame -/
theorem Le.overL (f g : Mem) : Le f (Vc.over f g) := fun b e h => by simp [Vc.over, h]
theorem vcRaw_mono {lend : Bool} {op : Op} {ρ : Operand → Value} {K K' : Value → Mem → Mem → Prop} (hk : ∀ v M' ψ', Le ψ ψ' → K v M' ψ' → K' v M' ψ')
    (h : vcRaw P κ lend op ρ K M ψ) : vcRaw P κ lend op ρ K' M ψ := by
  have hr := Le.refl ψ
  unfold vcRaw at h ⊢
  split at h
  · obtain ⟨M', h1, h2⟩ := h; exact ⟨M', h1, hk _ _ _ hr h2⟩
  · obtain ⟨cs, h1, h2⟩ := h; exact ⟨cs, h1, fun g hg => hk _ _ _ hr (h2 g hg)⟩
  · exact fun g hg => hk _ _ _ hr (h g hg)
  · obtain ⟨e, cs, h1, h2⟩ := h; exact ⟨e, cs, h1, fun g hg => hk _ _ _ hr (h2 g hg)⟩
  · obtain ⟨e, cs, k, m, h1, h2⟩ := h; exact ⟨e, cs, k, m, h1, fun g hg => hk _ _ _ hr (h2 g hg)⟩
  · split at h
    · rename_i hl
      rw [if_pos hl]
      obtain ⟨L, Mr, R, h1, h2, h3⟩ := h
      exact ⟨L, Mr, R, h1, h2, fun v M' ψ' hR hap => hk _ _ _ (Le.overL _ _) (h3 v M' ψ' hR hap)⟩
    · rename_i hl
      rw [if_neg hl]
      obtain ⟨R, h2, h3⟩ := h
      exact ⟨R, h2, fun v M' ψ' hR hap => hk _ _ _ (Le.overL _ _) (h3 v M' ψ' hR hap)⟩
  · split at h
    · obtain ⟨rfl, e, h1, h2, m, xs, h3, h4, k, cs, M1, h5, h6, h7, h8, h9⟩ := h
      exact ⟨rfl, e, h1, h2, m, xs, h3, h4, k, cs, M1, h5, h6, h7, h8, fun g c hg hc hm => hk _ _ _ hr (h9 g c hg hc hm)⟩
    · exact h
  · split at h
    · obtain ⟨M', h1, h2⟩ := h; exact ⟨M', h1, hk _ _ _ hr h2⟩
    · exact h
  · obtain ⟨v, h1, h2⟩ := h; exact ⟨v, h1, hk _ _ _ hr h2⟩
theorem setd_ne {d : Option Tmp} {v : Value} {t : Nat} (h : d ≠ some t) : setd env d v t = env t := by
  cases d with
  | none => rfl
  | some s => exact upd_ne fun e => h (by rw [e])
theorem vcG_mono {lend : Bool} {ops : Array Oper} {o : Oper} {K K' : VP} (hk : ∀ env' M' ψ', (∀ t, o.dst ≠ some t → env' t = env t) → Le ψ ψ' → K env' M' ψ' → K' env' M' ψ')
    (h : vcG P κ lend ops o K env M ψ) : vcG P κ lend ops o K' env M ψ := by
  have hk' : ∀ v M' ψ', Le ψ ψ' → K (setd env o.dst v) M' ψ' → K' (setd env o.dst v) M' ψ' := fun v M' ψ' hl hK => hk _ _ _ (fun t ht => setd_ne ht) hl hK
  unfold vcG at h ⊢
  split at h
  · exact vcRaw_mono hk' h
  · split at h
    · exact h
    · obtain ⟨b, hb, h⟩ := h
      refine ⟨b, hb, ?_⟩
      split at h
      · rename_i hl; rw [if_pos hl]; exact ⟨h.1, hk' _ _ _ (Le.refl _) h.2⟩
      · rename_i hl; rw [if_neg hl]; exact ⟨fun e => vcRaw_mono hk' (h.1 e), fun e => hk' _ _ _ (Le.refl _) (h.2 e)⟩
theorem vcOps_mono {ops : Array Oper} : ∀ (l : List Oper) {K K' : VP} {env : Env} {M ψ : Mem}, (∀ env' M' ψ', (∀ t, (∀ o ∈ l, o.dst ≠ some t) → env' t = env t) → Le ψ ψ' → K env' M' ψ' → K' env' M' ψ') →
    vcOps P κ ops K l env M ψ → vcOps P κ ops K' l env M ψ
  | [], K, K', env, M, ψ, hk, h => hk _ _ _ (fun _ _ => rfl) (Le.refl _) h
  | o :: r, K, K', env, M, ψ, hk, h => by
    unfold vcOps at h ⊢
    refine vcG_mono (fun env' M' ψ' h1 h2 h3 => vcOps_mono r (fun env'' M'' ψ'' h4 h5 h6 => hk _ _ _ (fun t ht => ?_) (h2.trans h5) h6) h3) h
    rw [h4 t fun o' ho' => ht o' (by simp [ho']), h1 t (ht o (by simp))]
end Go.Vc
