/- Code, and whole functions. -/
import Derived.Test.YtbenllhoofoahaaVcH
import Derived.Deep.LoopGhost
namespace Go.Vc
open Go.RowKit
set_option linter.unusedVariables false
set_option linter.unusedSimpArgs false
variable {P : Program} {w0 w : World} {κ X ψ M : Mem} {n : Nat} {a : Act} {env : Env} {Q : Exit → Act → World → Prop}

/-- K holds of what is left behind forgetting some of the own memory, and laying down some of it for good. -/
def Up (X ψ M : Mem) (K : Mem → Mem → Prop) : Prop :=
  ∃ M' ψ', Le M' M ∧ Le ψ ψ' ∧ (∀ b e, ψ' b = some e → ψ b = some e ∨ (M b = some e ∧ X b = none)) ∧ (∀ b e, ψ' b = some e → M' b = none ∨ ψ b = some e) ∧ K M' ψ'
theorem Up.sat {K : Mem → Mem → Prop} (h : Up X ψ M K) (hs : Sat w0 κ X ψ M w) : ∃ M' ψ', Sat w0 κ X ψ' M' w ∧ Le ψ ψ' ∧ K M' ψ' := by
  obtain ⟨M', ψ', h1, h2, h3, h4, h5⟩ := h
  refine ⟨M', ψ', hs.less h1 fun b e hb => ?_, h2, h5⟩
  constructor
  · rcases h3 b e hb with h | ⟨hm, hx⟩
    · exact .inl h
    · refine .inr ⟨hm, ?_⟩
      rcases (hs.own b e hm).1 with h | h
      · exact h
      · exact absurd hx h
  · rcases h4 b e hb with h | h
    · exact h
    · cases hm : M' b with
      | none => rfl
      | some x => have := (hs.laid b e h).2.2; rw [h1 b x hm] at this; cases this
theorem Up.here {K : Mem → Mem → Prop} (h : K M ψ) : Up X ψ M K := ⟨M, ψ, Le.refl _, Le.refl _, fun b e hb => .inl hb, fun b e hb => .inr hb, h⟩
theorem Up.drop {K : Mem → Mem → Prop} {M' : Mem} (hM : Le M' M) (h : K M' ψ) : Up X ψ M K := ⟨M', ψ, hM, Le.refl _, fun b e hb => .inl hb, fun b e hb => .inr hb, h⟩
theorem Up.mono {K K' : Mem → Mem → Prop} (hk : ∀ M' ψ', Le ψ ψ' → K M' ψ' → K' M' ψ') (h : Up X ψ M K) : Up X ψ M K' := by
  obtain ⟨M', ψ', h1, h2, h3, h4, h5⟩ := h
  exact ⟨M', ψ', h1, h2, h3, h4, hk _ _ h2 h5⟩
/-- One block of the call's own is laid down, the rest is kept but for what is forgotten. -/
theorem Up.lay {K : Mem → Mem → Prop} {M' : Mem} {g : Nat} {e : Ent} (hg : M g = some e) (hX : X g = none) (hψ : ψ g = none) (hM : Le M' M) (hg' : M' g = none) (h : K M' (upd ψ g (some e))) : Up X ψ M K := by
  refine ⟨M', upd ψ g (some e), hM, fun b x hb => ?_, fun b x hb => ?_, fun b x hb => ?_, h⟩
  · have hne : b ≠ g := fun e' => by subst e'; rw [hψ] at hb; cases hb
    rw [upd_ne hne]; exact hb
  · by_cases hb' : b = g
    · subst hb'
      rw [upd_same] at hb
      simp only [Option.some.injEq] at hb
      subst hb
      exact .inr ⟨hg, hX⟩
    · rw [upd_ne hb'] at hb; exact .inl hb
  · by_cases hb' : b = g
    · subst hb'; exact .inl hg'
    · rw [upd_ne hb'] at hb; exact .inr hb

/-- What is known, what is laid down and what is owned lie apart. -/
def Apart (κ ψ M : Mem) : Prop := ∀ b e, (κ b = some e → M b = none ∧ ψ b = none) ∧ (ψ b = some e → M b = none)
theorem Sat.lies (h : Sat w0 κ X ψ M w) : Apart κ ψ M := fun b e => by
  refine ⟨fun hb => ?_, fun hb => (h.laid b e hb).2.2⟩
  obtain ⟨h1, h2, _⟩ := h.known b e hb
  constructor
  · cases hm : M b with
    | none => rfl
    | some x =>
      rcases (h.own b x hm).1 with h3 | h3
      · omega
      · exact (h3 h2).elim
  · cases hm : ψ b with
    | none => rfl
    | some x => have := (h.laid b x hm).1; omega
def dsts : Code → List Nat
  | .region _ ops _ => ops.toList.filterMap (·.dst)
  | .seq a b => dsts a ++ dsts b
  | .cond _ a b => dsts a ++ dsts b
  | .block _ c => dsts c
  | .loop c => dsts c
  | .scope c => dsts c
  | _ => []

def thenQ (K : VP) (Q : Exit → VP) : Exit → VP
  | .normal => K
  | e => Q e
def blockQ (id : Nat) (Q : Exit → VP) : Exit → VP
  | .exit i => if i = id then Q .normal else Q (.exit i)
  | e => Q e

/-- What is to be shown ahead of code. -/
def vc (P : Program) (κ X : Mem) : Code → (Exit → VP) → VP
  | .skip, Q => Q .normal
  | .seq a b, Q => vc P κ X a (thenQ (vc P κ X b Q) Q)
  | .cond c x y, Q => fun env M ψ => ∃ b, ev env c = .bool b ∧ (b = true → vc P κ X x Q env M ψ) ∧ (b = false → vc P κ X y Q env M ψ)
  | .block id c, Q => vc P κ X c (blockQ id Q)
  | .exit id, Q => Q (.exit id)
  | .ret, Q => Q .ret
  | .loop c, Q => fun env M ψ => ∃ I : Nat → VP, Up X ψ M (fun M ψ => ∃ m, I m env M ψ) ∧
      ∀ m env' M' ψ', (∀ t, t ∉ dsts c → env' t = env t) → Le ψ ψ' → Apart κ ψ' M' → I m env' M' ψ' →
        vc P κ X c (thenQ (fun env M ψ => Up X ψ M (fun M ψ => ∃ m', m' < m ∧ I m' env M ψ)) Q) env' M' ψ'
  | .region _ ops draw, Q => fun env M ψ => if draw = true then ∃ plan, planOk ops plan = true ∧ vcPlan P κ ops (Q .normal) plan env M ψ else vcOps P κ ops (Q .normal) ops.toList env M ψ
  | _, _ => fun _ _ _ => False

theorem vcPlan_frame {ops : Array Oper} {K K' : VP} : ∀ (l : List (Nat × List Nat)) {env : Env} {M ψ : Mem}, (∀ env' M' ψ', (∀ t, (∀ o ∈ ops.toList, o.dst ≠ some t) → env' t = env t) → Le ψ ψ' → K env' M' ψ' → K' env' M' ψ') →
    vcPlan P κ ops K l env M ψ → vcPlan P κ ops K' l env M ψ
  | [], env, M, ψ, hk, h => hk _ _ _ (fun _ _ => rfl) (Le.refl _) h
  | (i, d) :: r, env, M, ψ, hk, h => by
    unfold vcPlan at h ⊢
    refine ⟨h.1, ?_⟩
    have h2 := h.2
    cases ho : ops[i]? with
    | none => simp only [ho] at h2
    | some o =>
      simp only [ho] at h2 ⊢
      refine vcG_mono (fun env' M' ψ' h3 h4 h5 => vcPlan_frame r (fun env'' M'' ψ'' h6 h7 h8 => hk _ _ _ (fun t ht => ?_) (h4.trans h7) h8) h5) h2
      rw [h6 t ht, h3 t (ht o (by simpa using Array.mem_of_getElem? ho))]

theorem vc_mono : ∀ (c : Code) {Q Q' : Exit → VP} {env : Env} {M ψ : Mem}, (∀ e env' M' ψ', (∀ t, t ∉ dsts c → env' t = env t) → Le ψ ψ' → Q e env' M' ψ' → Q' e env' M' ψ') →
    vc P κ X c Q env M ψ → vc P κ X c Q' env M ψ
  | .skip, Q, Q', env, M, ψ, hk, h => hk _ _ _ _ (fun _ _ => rfl) (Le.refl _) h
  | .seq a b, Q, Q', env, M, ψ, hk, h => by
    unfold vc at h ⊢
    refine vc_mono a (fun e env' M' ψ' h1 h2 h3 => ?_) h
    have hk' : ∀ e env'' M'' ψ'', (∀ t, t ∉ dsts a ++ dsts b → env'' t = env t) → Le ψ ψ'' → Q e env'' M'' ψ'' → Q' e env'' M'' ψ'' := hk
    cases e with
    | normal =>
      exact vc_mono b (fun e env'' M'' ψ'' h4 h5 h6 => hk' _ _ _ _ (fun t ht => by
        simp only [List.mem_append, not_or] at ht
        rw [h4 t ht.2, h1 t ht.1]) (h2.trans h5) h6) h3
    | _ => exact hk' _ _ _ _ (fun t ht => h1 t (by simp only [List.mem_append, not_or] at ht; exact ht.1)) h2 h3
  | .cond c x y, Q, Q', env, M, ψ, hk, h => by
    unfold vc at h ⊢
    obtain ⟨b, hb, h1, h2⟩ := h
    exact ⟨b, hb, fun e => vc_mono x (fun e env' M' ψ' h4 h5 h6 => hk _ _ _ _ (fun t ht => h4 t fun hm => ht (by simp [dsts, hm])) h5 h6) (h1 e),
      fun e => vc_mono y (fun e env' M' ψ' h4 h5 h6 => hk _ _ _ _ (fun t ht => h4 t fun hm => ht (by simp [dsts, hm])) h5 h6) (h2 e)⟩
  | .block id c, Q, Q', env, M, ψ, hk, h => by
    unfold vc at h ⊢
    refine vc_mono c (fun e env' M' ψ' h1 h2 h3 => ?_) h
    cases e with
    | exit i =>
      simp only [blockQ] at h3 ⊢
      split at h3
      · rename_i hi; rw [if_pos hi]; exact hk _ _ _ _ h1 h2 h3
      · rename_i hi; rw [if_neg hi]; exact hk _ _ _ _ h1 h2 h3
    | _ => exact hk _ _ _ _ h1 h2 h3
  | .exit id, Q, Q', env, M, ψ, hk, h => hk _ _ _ _ (fun _ _ => rfl) (Le.refl _) h
  | .ret, Q, Q', env, M, ψ, hk, h => hk _ _ _ _ (fun _ _ => rfl) (Le.refl _) h
  | .loop c, Q, Q', env, M, ψ, hk, h => by
    unfold vc at h ⊢
    obtain ⟨I, h0, h1⟩ := h
    refine ⟨I, h0, fun m env' M' ψ' hf hl ha hI => vc_mono c (fun e env'' M'' ψ'' h4 h5 h6 => ?_) (h1 m env' M' ψ' hf hl ha hI)⟩
    cases e with
    | normal => exact h6
    | _ => exact hk _ _ _ _ (fun t ht => by rw [h4 t ht, hf t ht]) (hl.trans h5) h6
  | .region id ops draw, Q, Q', env, M, ψ, hk, h => by
    unfold vc at h ⊢
    have hd : ∀ t, t ∉ dsts (.region id ops draw) → ∀ o ∈ ops.toList, o.dst ≠ some t := fun t ht o ho e => ht (by
      simp only [dsts, List.mem_filterMap]; exact ⟨o, ho, e⟩)
    cases draw with
    | true =>
      simp only [if_true] at h ⊢
      obtain ⟨plan, h1, h2⟩ := h
      exact ⟨plan, h1, vcPlan_frame plan (fun env' M' ψ' h3 h4 h5 => hk _ _ _ _ (fun t ht => h3 t fun o ho => hd t ht o ho) h4 h5) h2⟩
    | false =>
      simp only [Bool.false_eq_true, if_false] at h ⊢
      exact vcOps_mono _ (fun env' M' ψ' h3 h4 h5 => hk _ _ _ _ (fun t ht => h3 t fun o ho => hd t ht o ho) h4 h5) h
  | .rangeFunc .., Q, Q', env, M, ψ, hk, h => h
  | .scope _, Q, Q', env, M, ψ, hk, h => h
  | .label _, Q, Q', env, M, ψ, hk, h => h
  | .goto _, Q, Q', env, M, ψ, hk, h => h
  | .refuse _, Q, Q', env, M, ψ, hk, h => h

/-- Every slot that is written is there. -/
def okN (n : Nat) : Code → Bool
  | .region _ ops _ => ops.all fun o => match o.dst with | some t => decide (t < n) | none => true
  | .seq a b => okN n a && okN n b
  | .cond _ a b => okN n a && okN n b
  | .block _ c => okN n c
  | .loop c => okN n c
  | .scope c => okN n c
  | _ => true
def ExitOk (n : Nat) (w0 : World) (κ X : Mem) (Q : Exit → VP) : Exit → Act → World → Prop
  | .panic _, _, _ => False
  | .outgrown, _, _ => False
  | e, a, w => St n w0 κ X (Q e) a w

theorem vc_sound (hm : P.follows .mixedOrders = true) : ∀ (c : Code) {Q : Exit → VP} {env : Env} {M ψ : Mem} {a : Act} {w : World}, okN n c = true → vc P κ X c Q env M ψ → Sat w0 κ X ψ M w → EnvOk n a env →
    c.wp P (ExitOk n w0 κ X Q) a w
  | .skip, Q, env, M, ψ, a, w, hn, h, hs, he => wp_skip ⟨_, _, _, he, hs, h⟩
  | .seq x y, Q, env, M, ψ, a, w, hn, h, hs, he => by
    simp only [okN, Bool.and_eq_true] at hn
    unfold vc at h
    refine wp_seq (wp_mono (vc_sound hm x hn.1 h hs he) fun e a' w' hq => ?_)
    cases e with
    | normal => obtain ⟨env', M', ψ', he', hs', hk⟩ := hq; exact vc_sound hm y hn.2 hk hs' he'
    | panic _ => exact hq
    | outgrown => exact hq
    | _ => exact hq
  | .cond c x y, Q, env, M, ψ, a, w, hn, h, hs, he => by
    simp only [okN, Bool.and_eq_true] at hn
    unfold vc at h
    obtain ⟨b, hb, h1, h2⟩ := h
    exact wp_cond_split (by rw [he.eval]; exact hb) (fun e => vc_sound hm x hn.1 (h1 e) hs he) (fun e => vc_sound hm y hn.2 (h2 e) hs he)
  | .block id c, Q, env, M, ψ, a, w, hn, h, hs, he => by
    unfold vc at h
    refine wp_block (wp_mono (vc_sound hm c hn h hs he) fun e a' w' hq => ?_)
    cases e with
    | exit i =>
      simp only [ExitOk, blockQ, Exit.inBlock] at hq ⊢
      split
      · rename_i hi; rw [if_pos hi] at hq; exact hq
      · rename_i hi; rw [if_neg hi] at hq; exact hq
    | _ => exact hq
  | .exit id, Q, env, M, ψ, a, w, hn, h, hs, he => wp_exit ⟨_, _, _, he, hs, h⟩
  | .ret, Q, env, M, ψ, a, w, hn, h, hs, he => wp_ret ⟨_, _, _, he, hs, h⟩
  | .loop c, Q, env, M, ψ, a, w, hn, h, hs, he => by
    unfold vc at h
    obtain ⟨I, h0, h1⟩ := h
    obtain ⟨M0, ψ0, hs0, hl0, m0, hI0⟩ := h0.sat hs
    refine wp_loop_ghost (fun m a w => ∃ env' M' ψ', EnvOk n a env' ∧ Sat w0 κ X ψ' M' w ∧ (∀ t, t ∉ dsts c → env' t = env t) ∧ Le ψ ψ' ∧ I m env' M' ψ') m0 ⟨env, M0, ψ0, he, hs0, fun _ _ => rfl, hl0, hI0⟩ ?_
    rintro m a' w' ⟨env', M', ψ', he', hs', hf, hl, hI⟩
    have h2 := h1 m env' M' ψ' hf hl hs'.lies hI
    have h3 := vc_mono (P := P) (κ := κ) (X := X) c (Q' := thenQ (fun env'' M ψ => (Up X ψ M (fun M ψ => ∃ m', m' < m ∧ I m' env'' M ψ)) ∧ (∀ t, t ∉ dsts c → env'' t = env' t) ∧ Le ψ' ψ) Q) (fun e env'' M'' ψ'' h4 h5 h6 => by
      cases e with
      | normal => exact ⟨h6, h4, h5⟩
      | _ => exact h6) h2
    refine wp_mono (vc_sound hm c hn h3 hs' he') fun e a'' w'' hq => ?_
    cases e with
    | normal =>
      obtain ⟨env'', M'', ψ'', he'', hs'', hup, hf', hl'⟩ := hq
      obtain ⟨M3, ψ3, hs3, hl3, m', hm', hI'⟩ := hup.sat hs''
      exact ⟨m', hm', env'', M3, ψ3, he'', hs3, fun t ht => by rw [hf' t ht, hf t ht], (hl.trans hl').trans hl3, hI'⟩
    | panic _ => exact hq
    | outgrown => exact hq
    | _ => exact hq
  | .region id ops draw, Q, env, M, ψ, a, w, hn, h, hs, he => by
    unfold vc at h
    have hd : ∀ o ∈ ops.toList, ∀ t, o.dst = some t → t < n := fun o ho t ht => by
      simp only [okN, Array.all_eq_true_iff_forall_mem] at hn
      have := hn o (by simpa using ho)
      simpa [ht] using this
    cases draw with
    | true =>
      simp only [if_true] at h
      obtain ⟨plan, h1, h2⟩ := h
      exact wp_region_any hm (vcPlan_sound h1 (fun i o ho => hd o (by simpa using Array.mem_of_getElem? ho)) (fun a w h => h) h2 hs.drew he)
    | false =>
      simp only [Bool.false_eq_true, if_false] at h
      exact wp_region_list (vcOps_sound (fun a w h => h) _ _ _ _ _ _ h hs he hd)
  | .rangeFunc .., Q, env, M, ψ, a, w, hn, h, hs, he => h.elim
  | .scope _, Q, env, M, ψ, a, w, hn, h, hs, he => h.elim
  | .label _, Q, env, M, ψ, a, w, hn, h, hs, he => h.elim
  | .goto _, Q, env, M, ψ, a, w, hn, h, hs, he => h.elim
  | .refuse _, Q, env, M, ψ, a, w, hn, h, hs, he => h.elim
end Go.Vc
