/- Whole functions; the steps of a proof. -/
import Derived.Test.YtbenllhoofoahaaVcI
namespace Go.Vc
open Go.RowKit
set_option linter.unusedVariables false
set_option linter.unusedSimpArgs false
variable {P : Program} {w0 w : World} {κ X ψ M : Mem} {n : Nat} {a : Act} {env : Env} {Q : Exit → VP}

def resOne (P : Program) (A : Mem) (env : Env) : ResultVar → Option Value
  | .tmp t => some (env t)
  | .cell p ty => loadV P A ty (env p)
def resV (P : Program) (A : Mem) (env : Env) : List ResultVar → Option Value
  | [r] => resOne P A env r
  | [r, s] => match resOne P A env r, resOne P A env s with
    | some u, some v => some (.tuple #[u, v])
    | _, _ => none
  | [r, s, t] => match resOne P A env r, resOne P A env s, resOne P A env t with
    | some u, some v, some x => some (.tuple #[u, v, x])
    | _, _, _ => none
  | [] => some (.tuple #[])
  | _ => none
def retQ (P : Program) (κ X : Mem) (rs : List ResultVar) (R : Value → Mem → Mem → Prop) : Exit → VP
  | .normal => fun env M ψ => ∃ v, resV P (all κ ψ M) env rs = some v ∧ Up X ψ M (R v)
  | .ret => fun env M ψ => ∃ v, resV P (all κ ψ M) env rs = some v ∧ Up X ψ M (R v)
  | _ => fun _ _ _ => False
def envOf : List Value → Nat → Env
  | [], _ => fun _ => undef
  | v :: r, k => upd (envOf r (k + 1)) k v
theorem envOf_get : ∀ (l : List Value) (k t : Nat), envOf l k t = if t < k then undef else l.getD (t - k) undef
  | [], k, t => by simp [envOf]
  | v :: r, k, t => by
    unfold envOf
    by_cases h : t = k
    · subst h; simp [upd_same]
    · rw [upd_ne h, envOf_get r (k + 1) t]
      by_cases h2 : t < k
      · rw [if_pos (by omega), if_pos h2]
      · rw [if_neg (by omega), if_neg h2]
        obtain ⟨d, hd⟩ : ∃ d, t - k = d + 1 := ⟨t - k - 1, by omega⟩
        rw [hd, show t - (k + 1) = d from by omega]; simp

def resSem (tmps : Array Value) : ResultVar → Sem Value
  | .tmp t => pure (tmps.getD t undef)
  | .cell a t => do loadVar t (← asAddr (tmps.getD a undef))
theorem results_resSem (fn : Func) (tmps : Array Value) : results fn tmps = (do
    let vs ← fn.results.mapM (resSem tmps)
    pure (if h : vs.size = 1 then vs[0] else .tuple vs)) := rfl
theorem run_resOne {A : Mem} {r : ResultVar} {v : Value} {tmps : Array Value} (he : ∀ t, tmps.getD t undef = env t) (h : resOne P A env r = some v) (hA : ∀ b e, A b = some e → Knows w b e) :
    (resSem tmps r).run P w = .ok v w := by
  cases r with
  | tmp t => simp only [resOne, Option.some.injEq] at h; subst h; simp only [resSem, Sem.run_pure, he]
  | cell p ty =>
    simp only [resOne] at h
    have h1 := run_load h hA
    simp only [resSem, he]
    unfold Instr.loadAt Instr.sureAddr at h1
    generalize env p = x at h h1
    cases x <;> try (simp [loadV] at h; done)
    rename_i ad
    cases ad with
    | none => simp [loadV] at h
    | some ad => simpa [asAddr] using h1
theorem run_resV {A : Mem} {fn : Func} {v : Value} {tmps : Array Value} (he : ∀ t, tmps.getD t undef = env t) (h : resV P A env fn.results.toList = some v) (hA : ∀ b e, A b = some e → Knows w b e) :
    (results fn tmps).run P w = .ok v w := by
  have hr : fn.results = fn.results.toList.toArray := by simp
  rw [results_resSem, hr]
  generalize fn.results.toList = rs at h
  unfold resV at h
  split at h
  · rename_i r
    have := run_resOne he h hA
    simp [List.mapM_toArray, List.mapM_cons, this]
  · rename_i r s
    split at h
    · rename_i u v' hu hv
      simp only [Option.some.injEq] at h; subst h
      have h1 := run_resOne he hu hA
      have h2 := run_resOne he hv hA
      simp [List.mapM_toArray, List.mapM_cons, h1, h2]
    · cases h
  · rename_i r s t
    split at h
    · rename_i u v' x hu hv hx
      simp only [Option.some.injEq] at h; subst h
      have h1 := run_resOne he hu hA
      have h2 := run_resOne he hv hA
      have h3 := run_resOne he hx hA
      simp [List.mapM_toArray, List.mapM_cons, h1, h2, h3]
    · cases h
  · simp only [Option.some.injEq] at h; subst h
    simp
  · cases h

theorem callsX_of_vc {f : FuncId} {fn : Func} {c : Code} {args : List Value} {R : Value → Mem → Mem → Prop} (hm : P.follows .mixedOrders = true) (hf : P.funcs[f]? = some fn) (hb : fn.body = some c)
    (hok : callOk P f = true) (hn : okN fn.ntmps c = true) (ha : args.length ≤ fn.ntmps)
    (h : vc P κ X c (retQ P κ X fn.results.toList R) (envOf args 0) X none') : CallsX P f args.toArray X κ R := by
  refine ⟨hok, fun w hs => calls_of_wp hf hb ?_⟩
  have he : EnvOk fn.ntmps { tmps := args.toArray ++ Array.replicate (fn.ntmps - args.toArray.size) undef, defers := [] } (envOf args 0) := by
    refine ⟨by simp; omega, fun t => ?_, rfl⟩
    rw [envOf_get]
    simp only [Nat.not_lt_zero, if_false, Nat.sub_zero]
    by_cases ht : t < args.length
    · simp [Array.getD_eq_getD_getElem?, Array.getElem?_append, ht]
    · simp only [Array.getD_eq_getD_getElem?, Array.getElem?_append, List.size_toArray, ht, if_false, Array.getElem?_replicate]
      rw [List.getD_eq_getElem?_getD, List.getElem?_eq_none (by omega)]
      split <;> rfl
  refine wp_mono (vc_sound hm c hn h hs he) fun e a' w' hq => ?_
  have fin : ∀ env' M' ψ', EnvOk fn.ntmps a' env' → Sat w κ X ψ' M' w' → (∃ v, resV P (all κ ψ' M') env' fn.results.toList = some v ∧ Up X ψ' M' (R v)) →
      a'.defers = [] ∧ ∃ v, (results fn a'.tmps).run P w' = .ok v w' ∧ ∃ v_1 M ψ, Ending.returned v = .returned v_1 ∧ R v_1 M ψ ∧ Sat w κ X ψ M w' := by
    rintro env' M' ψ' he' hs' ⟨v, hv, hup⟩
    obtain ⟨M2, ψ2, hs2, _, hR⟩ := hup.sat hs'
    exact ⟨he'.defers, v, run_resV he'.get hv fun b e hb => hs'.knows hb, v, M2, ψ2, rfl, hR, hs2⟩
  cases e with
  | normal => obtain ⟨env', M', ψ', he', hs', hk⟩ := hq; exact fin env' M' ψ' he' hs' hk
  | ret => obtain ⟨env', M', ψ', he', hs', hk⟩ := hq; exact fin env' M' ψ' he' hs' hk
  | exit i => obtain ⟨env', M', ψ', he', hs', hk⟩ := hq; exact hk.elim
  | goto i => obtain ⟨env', M', ψ', he', hs', hk⟩ := hq; exact hk.elim
  | panic i => exact hq.elim
  | outgrown => exact hq.elim

/-! ### The steps of a proof -/
theorem vc_seq {x y : Code} (h : ∀ K : VP, (∀ env M ψ, vc P κ X y Q env M ψ → K env M ψ) → vc P κ X x (thenQ K Q) env M ψ) : vc P κ X (.seq x y) Q env M ψ := by
  unfold vc; exact h _ fun _ _ _ h => h
theorem vc_block {id : Nat} {c : Code} (h : vc P κ X c (blockQ id Q) env M ψ) : vc P κ X (.block id c) Q env M ψ := by unfold vc; exact h
theorem vc_region {id : Nat} {l : List Oper} (h : vcOps P κ l.toArray (Q .normal) l env M ψ) : vc P κ X (.region id l.toArray false) Q env M ψ := by
  unfold vc; simpa using h
theorem vc_drawn {id : Nat} {ops : Array Oper} (plan : List (Nat × List Nat)) (hp : planOk ops plan = true) (h : vcPlan P κ ops (Q .normal) plan env M ψ) : vc P κ X (.region id ops true) Q env M ψ := by
  unfold vc; simp only [if_true]; exact ⟨plan, hp, h⟩
theorem vc_cond {c : Operand} {x y : Code} {b : Bool} (hc : ev env c = .bool b) (ht : b = true → vc P κ X x Q env M ψ) (hf : b = false → vc P κ X y Q env M ψ) : vc P κ X (.cond c x y) Q env M ψ := by
  unfold vc; exact ⟨b, hc, ht, hf⟩
theorem vc_loop {c : Code} (I : Nat → VP) (m : Nat) (h0 : I m env M ψ)
    (h : ∀ m env' M' ψ', (∀ t, (dsts c).contains t = false → env' t = env t) → Le ψ ψ' → Apart κ ψ' M' → I m env' M' ψ' →
      ∀ K : VP, (∀ m' env M ψ, m' < m → Up X ψ M (fun M ψ => I m' env M ψ) → K env M ψ) → vc P κ X c (thenQ K Q) env' M' ψ') : vc P κ X (.loop c) Q env M ψ := by
  unfold vc
  refine ⟨I, Up.here ⟨m, h0⟩, fun m env' M' ψ' hf hl ha hI => h m env' M' ψ' (fun t ht => hf t (by simpa using ht)) hl ha hI _ ?_⟩
  intro m' env M ψ hm hup
  exact hup.mono fun M' ψ' _ hI' => ⟨m', hm, hI'⟩
/-- A function that returns a plain value. -/
def Gives (P : Program) (f : FuncId) (args : List Value) (κ : Mem) (v : Value) : Prop := CallsX P f args.toArray none' κ (fun r M ψ => r = v ∧ M = none' ∧ ψ = none')
theorem Up.plain {v r : Value} (h : r = v) (hX : ∀ b, X b = none) (hψ : ψ = none') : Up X ψ M (fun M ψ => r = v ∧ M = none' ∧ ψ = none') :=
  ⟨none', ψ, Le.none _, Le.refl _, fun b e hb => .inl hb, fun b e hb => .inr hb, h, rfl, hψ⟩
/-- A call that returns a plain value. -/
theorem VCall0.returns {f : FuncId} {args : Array Value} {v : Value} {K : Value → Mem → Mem → Prop} (h : Gives P f args.toList (all κ ψ M) v) (hk : K v M ψ) : VCall0 P κ (.func (.func f) #[] #[]) args K M ψ := by
  refine ⟨fun r M' ψ' => r = v ∧ M' = none' ∧ ψ' = none', ?_, ?_⟩
  · unfold Gives at h
    simpa [CallsF] using h
  · rintro r M' ψ' ⟨rfl, rfl, rfl⟩ _
    rw [over_none', over_none']; exact hk
theorem VCall.returns {f : FuncId} {args : Array Value} {v : Value} {K : Value → Mem → Mem → Prop} (h : Gives P f args.toList (all κ ψ M) v) (hk : K v M ψ) : VCall P κ (.func (.func f) #[] #[]) args K M ψ := (VCall0.returns h hk).vcall

theorem upd_none {g k : Nat} {e : Ent} : upd M k (some e) g = none ↔ (g ≠ k ∧ k ≠ g) ∧ M g = none := by
  by_cases h : g = k
  · subst h; simp [upd_same]
  · simp [upd_ne h, h, Ne.symm h]
end Go.Vc
