/- Regions whose order is open: two operations change places; a plan; every order. -/
import Derived.Test.YtbenllhoofoahaaVcG
namespace Go.Vc
open Go.RowKit
set_option linter.unusedVariables false
set_option linter.unusedSimpArgs false
variable {P : Program} {w0 w : World} {κ X ψ M : Mem} {n : Nat} {a : Act} {env : Env} {Q : Exit → Act → World → Prop} {ops : Array Oper} {K : VP}

theorem all_upd {g : Nat} {e : Ent} (hg : Fresh κ ψ M g) : Le (all κ ψ M) (all κ ψ (upd M g (some e))) := by
  intro b x hx
  obtain ⟨h1, h2, h3⟩ := hg
  have hb : b ≠ g := fun e' => by subst e'; simp [all, over, h1, h2, h3] at hx
  simp only [all, over] at hx ⊢
  rw [upd_ne hb]; exact hx
theorem all_over {M' ψ' : Mem} (hap : ∀ b, (M b ≠ none ∨ ψ b ≠ none ∨ κ b ≠ none) → M' b = none ∧ ψ' b = none) : Le (all κ ψ M) (all κ (over ψ ψ') (over M M')) := by
  intro b x hx
  simp only [all, over] at hx ⊢
  cases h1 : M b with
  | some y => rw [h1] at hx; simpa using hx
  | none =>
    rw [h1] at hx
    cases h2 : ψ b with
    | some y =>
      rw [h2] at hx
      rw [(hap b (.inr (.inl (by simp [h2])))).1]
      simpa using hx
    | none =>
      rw [h2] at hx
      simp only [Option.none_or] at hx
      obtain ⟨h3, h4⟩ := hap b (.inr (.inr (by simp [hx])))
      simp [h3, h4, hx]

def calm : Op → Bool
  | .store .. => false
  | .call { callee := .builtin .append, .. } => false
  | .call { callee := .builtin .clear, .. } => false
  | _ => true
theorem vcRaw_mono2 {op : Op} {ρ : Operand → Value} {K K' : Value → Mem → Mem → Prop} (hk : ∀ v M' ψ', (calm op = true → Le (all κ ψ M) (all κ ψ' M')) → K v M' ψ' → K' v M' ψ')
    (h : vcRaw P κ false op ρ K M ψ) : vcRaw P κ false op ρ K' M ψ := by
  have hr := Le.refl (all κ ψ M)
  unfold vcRaw at h ⊢
  split at h
  · obtain ⟨M', h1, h2⟩ := h; exact ⟨M', h1, hk _ _ _ (fun e => by cases e) h2⟩
  · obtain ⟨cs, h1, h2⟩ := h; exact ⟨cs, h1, fun g hg => hk _ _ _ (fun _ => all_upd hg) (h2 g hg)⟩
  · exact fun g hg => hk _ _ _ (fun _ => all_upd hg) (h g hg)
  · obtain ⟨e, cs, h1, h2⟩ := h; exact ⟨e, cs, h1, fun g hg => hk _ _ _ (fun _ => all_upd hg) (h2 g hg)⟩
  · obtain ⟨e, cs, k, m, h1, h2⟩ := h; exact ⟨e, cs, k, m, h1, fun g hg => hk _ _ _ (fun _ => all_upd hg) (h2 g hg)⟩
  · rw [if_neg (by simp)] at h ⊢
    obtain ⟨R, h2, h3⟩ := h
    exact ⟨R, h2, fun v M' ψ' hR hap => hk _ _ _ (fun _ => all_over hap) (h3 v M' ψ' hR hap)⟩
  · split at h
    · obtain ⟨rfl, e, h1, h2, m, xs, h3, h4, k, cs, M1, h5, h6, h7, h8, h9⟩ := h
      exact ⟨rfl, e, h1, h2, m, xs, h3, h4, k, cs, M1, h5, h6, h7, h8, fun g c hg hc hm => hk _ _ _ (fun e => by cases e) (h9 g c hg hc hm)⟩
    · exact h
  · split at h
    · obtain ⟨M', h1, h2⟩ := h; exact ⟨M', h1, hk _ _ _ (fun e => by cases e) h2⟩
    · exact h
  · obtain ⟨v, h1, h2⟩ := h; exact ⟨v, h1, hk _ _ _ (fun _ => hr) h2⟩
theorem vcG_mono2 {o : Oper} {K K' : VP} (hk : ∀ u M' ψ', (calm o.op = true → Le (all κ ψ M) (all κ ψ' M')) → K (setd env o.dst u) M' ψ' → K' (setd env o.dst u) M' ψ')
    (h : vcG P κ false ops o K env M ψ) : vcG P κ false ops o K' env M ψ := by
  unfold vcG at h ⊢
  split at h
  · exact vcRaw_mono2 hk h
  · split at h
    · exact h
    · obtain ⟨b, hb, h⟩ := h
      refine ⟨b, hb, ?_⟩
      split at h
      · rename_i hl; rw [if_pos hl]; exact ⟨h.1, hk _ _ _ (fun _ => Le.refl _) h.2⟩
      · rename_i hl; rw [if_neg hl]; exact ⟨fun e => vcRaw_mono2 hk (h.1 e), fun e => hk _ _ _ (fun _ => Le.refl _) (h.2 e)⟩

/-- An operation that only looks may come later. -/
theorem swapA {y x : Oper} (hl : looks y.op = true) (hap : y.apart ops x = true) (hm : isLoad y.op = false ∨ calm x.op = true)
    (h : vcG P κ false ops y (vcG P κ false ops x K) env M ψ) : vcG P κ false ops x (vcG P κ false ops y K) env M ψ := by
  obtain ⟨h1, h2, h3⟩ := Oper.apart_spec hap
  obtain ⟨v, hv, h⟩ := (vcG_looks hl).1 h
  rw [vcG_put h1 (fun t ht e => h2 t ht e)] at h
  refine vcG_mono2 (fun u M' ψ' hle hK => ?_) h
  refine (vcG_looks hl).2 ⟨v, FA_put h3 (FA_mono ?_ hv), hK⟩
  rcases hm with hm | hm
  · exact .inr hm
  · exact .inl (hle hm)

theorem CallsX.mono {f : FuncId} {args : Array Value} {Y κ' : Mem} {R : Value → Mem → Mem → Prop} (hle : Le κ κ') (h : CallsX P f args Y κ R) : CallsX P f args Y κ' R := by
  refine ⟨h.1, fun w hs => ?_⟩
  have hs' : Sat w κ Y none' Y w := ⟨hs.same, hs.own, hs.laid, fun b e hb => hs.known b e (hle b e hb)⟩
  refine (h.2 w hs').mono ?_
  rintro e w' ⟨v, M', ψ', he, hR, hs2⟩
  exact ⟨v, M', ψ', he, hR, hs2.same, hs2.own, hs2.laid, hs.known⟩
theorem CallsF.mono {fv : Value} {args : Array Value} {Y κ' : Mem} {R : Value → Mem → Mem → Prop} (hle : Le κ κ') (h : CallsF P fv args Y κ R) : CallsF P fv args Y κ' R := by
  unfold CallsF at h ⊢
  split at h
  · exact CallsX.mono hle h
  · exact h

def isCallV : Op → Bool
  | .call { callee := .value _, .. } => true
  | _ => false
theorem Fresh.other {g g2 : Nat} {e : Ent} (h : Fresh κ ψ (upd M g (some e)) g2) : g2 ≠ g ∧ Fresh κ ψ M g2 := by
  obtain ⟨h1, h2, h3⟩ := h
  have hne : g2 ≠ g := fun e' => by subst e'; rw [upd_same] at h1; cases h1
  exact ⟨hne, by rwa [upd_ne hne] at h1, h2, h3⟩
theorem vcRaw_more {op : Op} {ρ : Operand → Value} {K1 K2 : Value → Mem → Mem → Prop} {g : Nat} {e : Ent} (hop : isCallV op = true ∨ isB op = true) (hg : Fresh κ ψ M g)
    (hk : ∀ v M' ψ', Fresh κ ψ' M' g → K1 v M' ψ' → K2 v (upd M' g (some e)) ψ') (h : vcRaw P κ false op ρ K1 M ψ) : vcRaw P κ false op ρ K2 (upd M g (some e)) ψ := by
  rcases hop with hop | hop
  · cases op <;> simp only [isCallV] at hop <;> try (cases hop; done)
    rename_i c
    obtain ⟨callee, args, ts⟩ := c
    cases callee <;> simp only at hop <;> try (cases hop; done)
    rename_i f
    simp only [vcRaw, Bool.false_eq_true, if_false] at h ⊢
    obtain ⟨R, h1, h2⟩ := h
    refine ⟨R, h1.mono (all_upd hg), fun v M' ψ' hR hap => ?_⟩
    have hgg := hap g (.inl (by simp [upd_same]))
    have h3 := h2 v M' ψ' hR fun b hb => hap b (by
      by_cases hbg : b = g
      · subst hbg; exact .inl (by simp [upd_same])
      · rw [upd_ne hbg]; exact hb)
    have h4 := hk v _ _ ⟨by simp [over, hg.1, hgg.1], by simp [over, hg.2.1, hgg.2], hg.2.2⟩ h3
    have e1 : upd (over M M') g (some e) = over (upd M g (some e)) M' := by
      funext b
      simp only [over]
      by_cases hbg : b = g
      · subst hbg; simp [upd_same]
      · simp [upd_ne hbg, over]
    rw [← e1]; exact h4
  · rw [vcRaw_B hop] at h ⊢
    obtain ⟨e2, f, h1, h2⟩ := h
    refine ⟨e2, f, h1, fun g2 hg2 => ?_⟩
    obtain ⟨hne, hf⟩ := hg2.other
    have h3 := hk _ _ _ ⟨by rw [upd_ne (Ne.symm hne)]; exact hg.1, hg.2⟩ (h2 g2 hf)
    rw [upd_comm M _ _ hne] at h3
    exact h3
theorem vcG_more {o : Oper} {K1 K2 : VP} {g : Nat} {e : Ent} (hop : isCallV o.op = true ∨ isB o.op = true) (hg : Fresh κ ψ M g)
    (hk : ∀ u M' ψ', Fresh κ ψ' M' g → K1 (setd env o.dst u) M' ψ' → K2 (setd env o.dst u) (upd M' g (some e)) ψ') (h : vcG P κ false ops o K1 env M ψ) : vcG P κ false ops o K2 env (upd M g (some e)) ψ := by
  have hl : looks o.op = false := by
    rcases hop with hop | hop
    · cases ho : o.op <;> simp only [ho, isCallV] at hop <;> try (cases hop; done)
      rename_i c
      obtain ⟨callee, args, ts⟩ := c
      cases callee <;> simp only at hop <;> first | rfl | (cases hop; done)
    · cases ho : o.op <;> simp only [ho, isB] at hop <;> first | rfl | (cases hop; done)
  unfold vcG at h ⊢
  split at h
  · exact vcRaw_more hop hg hk h
  · split at h
    · exact h
    · obtain ⟨b, hb, h⟩ := h
      refine ⟨b, hb, ?_⟩
      rw [if_neg (by simp [hl])] at h ⊢
      exact ⟨fun e' => vcRaw_more hop hg hk (h.1 e'), fun e' => hk _ _ _ hg (h.2 e')⟩
/-- New memory may be made earlier. -/
theorem swapB {y x : Oper} (hop : isCallV y.op = true ∨ isB y.op = true) (hx : isB x.op = true) (hxg : x.guard = none) (hap : y.apart ops x = true) (hp : (mkB P x.op (ev env)).isSome = true)
    (h : vcG P κ false ops y (vcG P κ false ops x K) env M ψ) : vcG P κ false ops x (vcG P κ false ops y K) env M ψ := by
  obtain ⟨h1, h2, h3⟩ := Oper.apart_spec hap
  obtain ⟨⟨e, f⟩, hef⟩ := Option.isSome_iff_exists.1 hp
  have hX : ∀ {K' : VP} {env' : Env} {M' ψ' : Mem}, vcG P κ false ops x K' env' M' ψ' ↔ ∃ e f, mkB P x.op (ev env') = some (e, f) ∧ ∀ g, Fresh κ ψ' M' g → K' (setd env' x.dst (f g)) (upd M' g (some e)) ψ' := by
    intro K' env' M' ψ'
    unfold vcG
    simp only [hxg]
    exact vcRaw_B hx
  refine hX.2 ⟨e, f, hef, fun g hg => ?_⟩
  rw [vcG_put (d := x.dst) (v := f g) (fun t ht => h3 t ht) (fun t ht e' => h2 t e' ht)]
  refine vcG_more hop hg (fun u M' ψ' hg' hK => ?_) h
  obtain ⟨e', f', h4, h5⟩ := hX.1 hK
  rw [mkB_congr (ev_looks (ops := ops) (fun t ht => h1 t ht)), hef] at h4
  simp only [Option.some.injEq, Prod.mk.injEq] at h4
  obtain ⟨rfl, rfl⟩ := h4
  exact h5 g hg'

/-! ### Plans -/
def prepOk (P : Program) (ops : Array Oper) (env : Env) (x : Nat) : Prop :=
  match ops[x]? with
  | some o => (mkB P o.op (ev env)).isSome = true
  | none => False
def vcPlan (P : Program) (κ : Mem) (ops : Array Oper) (K : VP) : List (Nat × List Nat) → VP
  | [] => K
  | (i, d) :: r => fun env M ψ => (∀ x ∈ d, prepOk P ops env x) ∧ (match ops[i]? with
    | some o => vcG P κ false ops o (vcPlan P κ ops K r) env M ψ
    | none => False)
def direct (ops : Array Oper) (x y : Nat) : Bool :=
  match ops[y]? with
  | some o => o.after.any fun e => Region.binds .any e && e.on == x
  | none => false
def anc (ops : Array Oper) : Nat → Nat → Nat → Bool
  | 0, x, y => direct ops x y
  | k + 1, x, y => direct ops x y || (match ops[y]? with
    | some o => o.after.any fun e => Region.binds .any e && anc ops k x e.on
    | none => false)
def apartAt (ops : Array Oper) (x y : Nat) : Bool :=
  match ops[x]?, ops[y]? with
  | some a, some b => a.apart ops b
  | _, _ => false
def good (ops : Array Oper) (y : Nat) (d : List Nat) (x : Nat) : Bool :=
  match ops[y]?, ops[x]? with
  | some oy, some ox => oy.apart ops ox && ((looks oy.op && (!isLoad oy.op || calm ox.op)) || ((isCallV oy.op || isB oy.op) && isB ox.op && ox.guard.isNone && d.contains x))
  | _, _ => false
def planPairs (ops : Array Oper) (k : Nat) : List (Nat × List Nat) → Bool
  | [] => true
  | (y, d) :: r => (r.all fun x => x.1 != y && !direct ops x.1 y && (anc ops k y x.1 || good ops y d x.1)) && (d.all fun x => (r.any fun z => z.1 == x) && r.all fun z => z.1 == x || anc ops k x z.1 || apartAt ops z.1 x) && planPairs ops k r
def planOk (ops : Array Oper) (plan : List (Nat × List Nat)) : Bool :=
  planPairs ops ops.size plan && plan.length == ops.size && (plan.all fun x => x.1 < ops.size && !direct ops x.1 x.1) && Region.noSelect ops && (ops.all fun o => o.after.all fun e => e.on < ops.size)
/-- Without number j. -/
def del (j : Nat) : List (Nat × List Nat) → List (Nat × List Nat)
  | [] => []
  | (i, d) :: r => if i = j then del j r else (i, d.filter (· != j)) :: del j r

theorem mem_del {j i : Nat} {d : List Nat} : ∀ {l : List (Nat × List Nat)}, (i, d) ∈ del j l → i ≠ j ∧ ∃ d', (i, d') ∈ l ∧ d = d'.filter (· != j)
  | (i', d') :: r, h => by
    unfold del at h
    split at h
    · obtain ⟨h1, d2, h2, h3⟩ := mem_del h; exact ⟨h1, d2, by simp [h2], h3⟩
    · rename_i hne
      simp only [List.mem_cons, Prod.mk.injEq] at h
      rcases h with ⟨rfl, rfl⟩ | h
      · exact ⟨hne, d', by simp, rfl⟩
      · obtain ⟨h1, d2, h2, h3⟩ := mem_del h; exact ⟨h1, d2, by simp [h2], h3⟩
theorem mem_fst_del {j i : Nat} : ∀ {l : List (Nat × List Nat)}, (∃ d, (i, d) ∈ l) → i ≠ j → ∃ d, (i, d) ∈ del j l
  | (i', d') :: r, ⟨d, h⟩, hne => by
    unfold del
    simp only [List.mem_cons, Prod.mk.injEq] at h
    rcases h with ⟨rfl, rfl⟩ | h
    · rw [if_neg hne]; exact ⟨_, List.mem_cons_self⟩
    · obtain ⟨d2, h2⟩ := mem_fst_del ⟨d, h⟩ hne
      split
      · exact ⟨d2, h2⟩
      · exact ⟨d2, List.mem_cons_of_mem _ h2⟩
theorem planPairs_del {k j : Nat} : ∀ {l : List (Nat × List Nat)}, planPairs ops k l = true → planPairs ops k (del j l) = true
  | [], h => rfl
  | (y, d) :: r, h => by
    simp only [planPairs, Bool.and_eq_true, List.all_eq_true] at h
    obtain ⟨⟨h1, h2⟩, h3⟩ := h
    unfold del
    split
    · exact planPairs_del h3
    · simp only [planPairs, Bool.and_eq_true, List.all_eq_true]
      refine ⟨⟨fun x hx => ?_, fun x hx => ⟨?_, fun z hz => ?_⟩⟩, planPairs_del h3⟩
      · obtain ⟨i, dd⟩ := x
        obtain ⟨hij, d', h4, rfl⟩ := mem_del hx
        have h5 := h1 _ h4
        simp only [Bool.and_eq_true, Bool.or_eq_true] at h5 ⊢
        refine ⟨h5.1, h5.2.imp id fun hg => ?_⟩
        unfold good at hg ⊢
        split at hg
        · simp only [Bool.and_eq_true, Bool.or_eq_true] at hg ⊢
          refine ⟨hg.1, hg.2.imp id fun hh => ⟨hh.1, ?_⟩⟩
          have := hh.2
          simp only [List.contains_iff_mem, List.mem_filter, bne_iff_ne, ne_eq] at this ⊢
          exact ⟨this, hij⟩
        · cases hg
      · obtain ⟨hxd, hxj⟩ := List.mem_filter.1 hx
        obtain ⟨z, hz, hzx⟩ := List.any_eq_true.1 (h2 x hxd).1
        obtain ⟨d2, hd2⟩ := mem_fst_del (j := j) (i := x) ⟨z.2, by rw [← beq_iff_eq.1 hzx]; exact hz⟩ (by simpa using hxj)
        exact List.any_eq_true.2 ⟨(x, d2), hd2, by simp⟩
      · obtain ⟨i, dd⟩ := z
        obtain ⟨_, d', h4, _⟩ := mem_del hz
        exact (h2 x (List.mem_filter.1 hx).1).2 (i, d') h4
theorem vcPlan_mono {K K' : VP} (hk : ∀ env M ψ, K env M ψ → K' env M ψ) : ∀ (l : List (Nat × List Nat)) (env : Env) (M ψ : Mem), vcPlan P κ ops K l env M ψ → vcPlan P κ ops K' l env M ψ
  | [], env, M, ψ, h => hk _ _ _ h
  | (i, d) :: r, env, M, ψ, h => by
    unfold vcPlan at h ⊢
    refine ⟨h.1, ?_⟩
    have h2 := h.2
    cases ho : ops[i]? with
    | none => simp only [ho] at h2
    | some o => simp only [ho] at h2 ⊢; exact vcG_mono2 (fun u M' ψ' _ hK => vcPlan_mono hk r _ _ _ hK) h2
theorem vcPlan_del {j : Nat} : ∀ (l : List (Nat × List Nat)) (env : Env) (M ψ : Mem), (∀ x ∈ l, x.1 ≠ j) → vcPlan P κ ops K l env M ψ → vcPlan P κ ops K (del j l) env M ψ
  | [], env, M, ψ, _, h => h
  | (i, d) :: r, env, M, ψ, hj, h => by
    unfold vcPlan at h
    unfold del
    rw [if_neg (hj (i, d) (by simp))]
    unfold vcPlan
    refine ⟨fun x hx => h.1 x (List.mem_filter.1 hx).1, ?_⟩
    have h2 := h.2
    cases ho : ops[i]? with
    | none => simp only [ho] at h2
    | some o => simp only [ho] at h2 ⊢; exact vcG_mono2 (fun u M' ψ' _ hK => vcPlan_del r _ _ _ (fun x hx => hj x (by simp [hx])) hK) h2
/-- What may come up now may come first. -/
theorem plan_front {k j : Nat} {oj : Oper} (hoj : ops[j]? = some oj) : ∀ (l : List (Nat × List Nat)) (env : Env) (M ψ : Mem), planPairs ops k l = true → (∃ d, (j, d) ∈ l) → (∀ x ∈ l, anc ops k x.1 j = false) →
    vcPlan P κ ops K l env M ψ → vcG P κ false ops oj (vcPlan P κ ops K (del j l)) env M ψ
  | (y, d) :: r, env, M, ψ, hp, hj, hanc, h => by
    have hp' := hp
    simp only [planPairs, Bool.and_eq_true, List.all_eq_true] at hp
    obtain ⟨⟨h1, h2⟩, h3⟩ := hp
    unfold vcPlan at h
    obtain ⟨hprep, h⟩ := h
    by_cases hyj : y = j
    · subst hyj
      simp only [hoj] at h
      unfold del
      rw [if_pos rfl]
      refine vcG_mono2 (fun u M' ψ' _ hK => vcPlan_del r _ _ _ (fun x hx => ?_) hK) h
      have := h1 x hx
      simp only [Bool.and_eq_true, bne_iff_ne, ne_eq] at this
      exact this.1.1
    · cases hoy : ops[y]? with
      | none => simp only [hoy] at h
      | some oy =>
        simp only [hoy] at h
        have hjr : ∃ d, (j, d) ∈ r := by
          obtain ⟨d', hd'⟩ := hj
          simp only [List.mem_cons, Prod.mk.injEq] at hd'
          rcases hd' with ⟨e, _⟩ | hd'
          · exact absurd e.symm hyj
          · exact ⟨d', hd'⟩
        have hx := vcG_mono2 (fun u M' ψ' _ hK => plan_front hoj r _ _ _ h3 hjr (fun x hx => hanc x (by simp [hx])) hK) h
        obtain ⟨dj, hdj⟩ := hjr
        have hgood := h1 _ hdj
        simp only [Bool.and_eq_true, Bool.or_eq_true, hanc (y, d) (by simp), Bool.false_eq_true, false_or] at hgood
        have hg := hgood.2
        unfold good at hg
        simp only [hoy, hoj, Bool.and_eq_true, Bool.or_eq_true] at hg
        have hsw : vcG P κ false ops oj (vcG P κ false ops oy (vcPlan P κ ops K (del j r))) env M ψ := by
          rcases hg with ⟨hap, ⟨hl, hm⟩ | ⟨⟨⟨hop, hb⟩, hgn⟩, hdc⟩⟩
          · refine swapA hl hap ?_ hx
            rcases hm with hm | hm
            · exact .inl (by simpa using hm)
            · exact .inr hm
          · refine swapB (by simpa using hop) hb (by simpa using hgn) hap ?_ hx
            have := hprep j (by simpa using hdc)
            simpa [prepOk, hoj] using this
        unfold del
        rw [if_neg hyj]
        refine vcG_mono2 (fun u M' ψ' _ hK => ?_) hsw
        unfold vcPlan
        refine ⟨fun x hx => ?_, by simp only [hoy]; exact hK⟩
        obtain ⟨hxd, hxj⟩ := List.mem_filter.1 hx
        have hap := (h2 x hxd).2 (j, dj) hdj
        have hne : j ≠ x := fun e => by subst e; simp at hxj
        obtain ⟨z, hz, hzx⟩ := List.any_eq_true.1 (h2 x hxd).1
        have hax := hanc z (by simp [hz])
        rw [beq_iff_eq.1 hzx] at hax
        simp only [Bool.or_eq_true, beq_iff_eq, hne, hax, Bool.false_eq_true, or_false, false_or] at hap
        have hpx := hprep x hxd
        unfold prepOk at hpx ⊢
        cases hox : ops[x]? with
        | none => simp only [hox] at hpx
        | some ox =>
          simp only [hox] at hpx ⊢
          unfold apartAt at hap
          simp only [hoj, hox] at hap
          obtain ⟨a1, _, _⟩ := Oper.apart_spec hap
          rw [mkB_congr (ev_looks (ops := ops) (fun t ht => a1 t ht))]
          exact hpx

theorem del_none {j : Nat} : ∀ {l : List (Nat × List Nat)}, (∀ x ∈ l, x.1 ≠ j) → (del j l).length = l.length
  | [], _ => rfl
  | (i, d) :: r, h => by
    unfold del
    rw [if_neg (h (i, d) (by simp))]
    simp [del_none (l := r) fun x hx => h x (by simp [hx])]
theorem del_length {k j : Nat} : ∀ {l : List (Nat × List Nat)}, planPairs ops k l = true → (∃ d, (j, d) ∈ l) → (del j l).length + 1 = l.length
  | (i, d) :: r, hp, hj => by
    simp only [planPairs, Bool.and_eq_true, List.all_eq_true] at hp
    obtain ⟨⟨h1, h2⟩, h3⟩ := hp
    unfold del
    by_cases hij : i = j
    · rw [if_pos hij, del_none fun x hx => ?_]
      · simp
      · have := h1 x hx
        simp only [bne_iff_ne, ne_eq] at this
        rw [← hij]; exact this.1.1
    · rw [if_neg hij]
      obtain ⟨d', hd'⟩ := hj
      simp only [List.mem_cons, Prod.mk.injEq] at hd'
      rcases hd' with ⟨e, _⟩ | hd'
      · exact absurd e.symm hij
      · have := del_length h3 ⟨d', hd'⟩
        simp; omega
theorem nodup_le : ∀ {l l2 : List Nat}, l.Nodup → (∀ x, x ∈ l → x ∈ l2) → l.length ≤ l2.length
  | [], _, _, _ => Nat.zero_le _
  | x :: r, l2, hn, hs => by
    have hx := hs x (by simp)
    simp only [List.nodup_cons] at hn
    have := nodup_le (l2 := l2.erase x) hn.2 fun y hy => (List.mem_erase_of_ne (fun e => hn.1 (by rw [← e]; exact hy))).2 (hs y (by simp [hy]))
    rw [List.length_erase_of_mem hx] at this
    have := List.length_pos_of_mem hx
    simp; omega
theorem all_there {k m : Nat} : ∀ {l : List (Nat × List Nat)}, planPairs ops k l = true → l.length = m → (∀ x ∈ l, x.1 < m) → ∀ i, i < m → ∃ d, (i, d) ∈ l := by
  intro l hp hl hlt i hi
  have hnd : (l.map (·.1)).Nodup := by
    clear hl hlt
    induction l with
    | nil => simp
    | cons x r ih =>
      obtain ⟨y, d⟩ := x
      simp only [planPairs, Bool.and_eq_true, List.all_eq_true] at hp
      simp only [List.map_cons, List.nodup_cons]
      refine ⟨fun hm => ?_, ih hp.2⟩
      obtain ⟨z, hz, hzy⟩ := List.mem_map.1 hm
      have := hp.1.1 z hz
      simp only [bne_iff_ne, ne_eq] at this
      exact this.1.1 hzy
  have hsub : ∀ {x : Nat}, x ∈ (l.map (·.1)) → x ∈ List.range m := fun {x} hx => by
    obtain ⟨z, hz, rfl⟩ := List.mem_map.1 hx
    exact List.mem_range.2 (hlt z hz)
  have hperm : i ∈ l.map (·.1) := by
    refine Classical.byContradiction fun hni => ?_
    have h1 := nodup_le (l2 := (List.range m).erase i) hnd fun x hx => (List.mem_erase_of_ne (fun e => hni (by rw [← e]; exact hx))).2 (hsub hx)
    rw [List.length_erase_of_mem (List.mem_range.2 hi)] at h1
    simp [hl] at h1
    omega
  obtain ⟨z, hz, rfl⟩ := List.mem_map.1 hperm
  exact ⟨z.2, hz⟩
/-- What has come up, and all that is ahead of it. -/
def Closed (ops : Array Oper) (listed : Array Bool) : Prop := ∀ x y, listed.getD y false = true → direct ops x y = true → listed.getD x false = true
theorem direct_of {x y : Nat} {o : Oper} (ho : ops[y]? = some o) : direct ops x y = true ↔ ∃ e ∈ o.after, Region.binds .any e = true ∧ e.on = x := by
  unfold direct
  simp only [ho, Array.any_eq_true']
  constructor
  · rintro ⟨e, he, hb⟩
    simp only [Bool.and_eq_true, beq_iff_eq] at hb
    exact ⟨e, he, hb.1, hb.2⟩
  · rintro ⟨e, he, hb, hx⟩
    exact ⟨e, he, by simp [hb, hx]⟩
theorem anc_listed {listed : Array Bool} (hc : Closed ops listed) : ∀ (k x y : Nat), (∀ z, direct ops z y = true → listed.getD z false = true) → anc ops k x y = true → listed.getD x false = true
  | 0, x, y, hd, h => hd x h
  | k + 1, x, y, hd, h => by
    simp only [anc, Bool.or_eq_true] at h
    rcases h with h | h
    · exact hd x h
    · cases ho : ops[y]? with
      | none => simp [ho] at h
      | some o =>
        simp only [ho, Array.any_eq_true'] at h
        obtain ⟨e, he, hb⟩ := h
        simp only [Bool.and_eq_true] at hb
        have h1 := hd e.on ((direct_of ho).2 ⟨e, he, hb.1, rfl⟩)
        exact anc_listed hc k x e.on (fun z hz => hc z e.on h1 hz) hb.2
theorem wpAny_of_plan (hd : ∀ (i : Nat) (o : Oper), ops[i]? = some o → ∀ t, o.dst = some t → t < n) (hrange : ∀ (i : Nat) (o : Oper), ops[i]? = some o → ∀ e ∈ o.after, e.on < ops.size) (hK : ∀ a w, St n w0 κ X K a w → Q .normal a w)
    {k : Nat} (hns : Region.noSelect ops = true) : ∀ (m : Nat) (l : List (Nat × List Nat)) (listed : Array Bool) (env : Env) (M ψ : Mem) (a : Act) (w : World), l.length = m →
    planPairs ops k l = true → (∀ x ∈ l, direct ops x.1 x.1 = false) → Closed ops listed → listed.size = ops.size → (∀ i, i < ops.size → (listed.getD i false = false ↔ ∃ d, (i, d) ∈ l)) → (∀ x ∈ l, x.1 < ops.size) →
    vcPlan P κ ops K l env M ψ → Sat w0 κ X ψ M w → EnvOk n a env → wpAny P .any ops Q m listed a w
  | 0, l, listed, env, M, ψ, a, w, hl, hp, hself, hc, hsz, hun, hlt, h, hs, he => by
    have : l = [] := List.eq_nil_of_length_eq_zero hl
    subst this
    refine ⟨?_, hK a w ⟨env, M, ψ, he, hs, h⟩⟩
    refine List.eq_nil_iff_forall_not_mem.2 fun j hj => ?_
    obtain ⟨h1, o, ho, _⟩ := mem_ready.1 hj
    have hjs : j < ops.size := (Array.getElem?_eq_some_iff.1 ho).1
    have h2 : listed.getD j false = false := by
      have : j < listed.size := by omega
      simpa [Array.getD_eq_getD_getElem?, this] using h1
    obtain ⟨d, hd'⟩ := (hun j hjs).1 h2
    cases hd'
  | m + 1, l, listed, env, M, ψ, a, w, hl, hp, hself, hc, hsz, hun, hlt, h, hs, he => by
    have hgd : ∀ j, j < ops.size → listed.getD j true = listed.getD j false := fun j hj => by
      have : j < listed.size := by omega
      simp [Array.getD_eq_getD_getElem?, this]
    refine ⟨fun h0 => ?_, fun j hj => ?_⟩
    · -- the first of the plan may come up
      cases l with
      | nil => simp at hl
      | cons yd r =>
        obtain ⟨y, d⟩ := yd
        have hy : y < ops.size := hlt (y, d) (by simp)
        have hyr : y ∈ Region.ready .any ops listed := by
          refine mem_ready.2 ⟨by rw [hgd y hy]; exact (hun y hy).2 ⟨d, by simp⟩, ops[y], Array.getElem?_eq_getElem hy, fun e hee hb => ?_⟩
          have hdir : direct ops e.on y = true := (direct_of (Array.getElem?_eq_getElem hy)).2 ⟨e, hee, hb, rfl⟩
          rcases Nat.lt_or_ge e.on ops.size with hlt' | hge
          · cases hle : listed.getD e.on false with
            | true => rfl
            | false =>
              obtain ⟨d2, hd2⟩ := (hun e.on hlt').1 hle
              simp only [List.mem_cons, Prod.mk.injEq] at hd2
              rcases hd2 with ⟨e1, _⟩ | hd2
              · rw [e1] at hdir
                have := hself (y, d) (by simp)
                rw [hdir] at this; cases this
              · simp only [planPairs, Bool.and_eq_true, List.all_eq_true] at hp
                have := hp.1.1 _ hd2
                simp only [Bool.and_eq_true, Bool.not_eq_true'] at this
                rw [hdir] at this
                exact absurd this.1.2 (by simp)
          · have := hrange y _ (Array.getElem?_eq_getElem hy) e hee
            omega
        rw [h0] at hyr
        cases hyr
    · obtain ⟨hj1, oj, hoj, hj2⟩ := mem_ready.1 hj
      have hjs : j < ops.size := (Array.getElem?_eq_some_iff.1 hoj).1
      rw [hgd j hjs] at hj1
      have hjl := (hun j hjs).1 hj1
      have hdir : ∀ z, direct ops z j = true → listed.getD z false = true := fun z hz => by
        obtain ⟨e, hee, hb, rfl⟩ := (direct_of hoj).1 hz
        exact hj2 e hee hb
      have hanc : ∀ x ∈ l, anc ops k x.1 j = false := fun x hx => by
        cases ha : anc ops k x.1 j with
        | false => rfl
        | true =>
          have h1 := anc_listed hc k x.1 j hdir ha
          have h2 := (hun x.1 (hlt x hx)).2 ⟨x.2, hx⟩
          rw [h1] at h2; cases h2
      have hf := plan_front (P := P) (κ := κ) (K := K) hoj l env M ψ hp hjl hanc h
      have hset : ∀ i, (listed.setIfInBounds j true).getD i false = if i = j then true else listed.getD i false := fun i => by
        by_cases hij : i = j
        · subst hij
          have : i < listed.size := by omega
          simp [Array.getD_eq_getD_getElem?, this]
        · rw [if_neg hij, getD_set_ne false (fun e => hij e.symm)]
      have hnext : ∀ a' w', St n w0 κ X (vcPlan P κ ops K (del j l)) a' w' → wpAny P .any ops Q m (listed.setIfInBounds j true) a' w' := by
        rintro a' w' ⟨env', M', ψ', he', hs', hk'⟩
        refine wpAny_of_plan hd hrange hK hns m (del j l) (listed.setIfInBounds j true) env' M' ψ' a' w' ?_ (planPairs_del hp) (fun x hx => ?_) (fun x y hy hxy => ?_) (by simp [hsz]) (fun i hi => ?_) (fun x hx => ?_) hk' hs' he'
        · have := del_length hp hjl; omega
        · obtain ⟨_, d', h4, _⟩ := mem_del hx; exact hself (_, d') h4
        · rw [hset] at hy ⊢
          by_cases hxj : x = j
          · rw [if_pos hxj]
          · rw [if_neg hxj]
            by_cases hyj : y = j
            · rw [hyj] at hxy; exact hdir x hxy
            · rw [if_neg hyj] at hy; exact hc x y hy hxy
        · rw [hset]
          by_cases hij : i = j
          · rw [if_pos hij]
            constructor
            · intro h; cases h
            · rintro ⟨d, hd'⟩; exact absurd hij (mem_del hd').1
          · rw [if_neg hij, hun i hi]
            constructor
            · intro h; exact mem_fst_del h hij
            · rintro ⟨d, hd'⟩; obtain ⟨_, d', h4, _⟩ := mem_del hd'; exact ⟨d', h4⟩
        · obtain ⟨_, d', h4, _⟩ := mem_del hx; exact hlt (_, d') h4
      have h1 := vcG_sound (Q := Q) hf hs he (hd j oj hoj)
      unfold wpOp
      simp only [hoj]
      split
      · rename_i hw
        rw [if_pos hw] at h1
        exact .inl (Oper.wp_mono hnext h1)
      · rename_i hw
        rw [if_neg hw] at h1
        exact hnext _ _ h1

theorem vcPlan_sound {plan : List (Nat × List Nat)} (hok : planOk ops plan = true) (hd : ∀ (i : Nat) (o : Oper), ops[i]? = some o → ∀ t, o.dst = some t → t < n)
    (hK : ∀ a w, St n w0 κ X K a w → Q .normal a w) (h : vcPlan P κ ops K plan env M ψ) (hs : Sat w0 κ X ψ M w) (he : EnvOk n a env) :
    wpAny P .any ops Q ops.size (Array.replicate ops.size false) a w := by
  simp only [planOk, Bool.and_eq_true, beq_iff_eq, List.all_eq_true, decide_eq_true_eq, Bool.not_eq_true', Array.all_eq_true_iff_forall_mem] at hok
  obtain ⟨⟨⟨⟨h1, h2⟩, h3⟩, h4⟩, h5⟩ := hok
  refine wpAny_of_plan hd (fun i o ho e he => h5 o (Array.mem_of_getElem? ho) e he) hK h4 ops.size plan _ env M ψ a w h2 h1 (fun x hx => (h3 x hx).2) (fun x y hy hxy => ?_) (by simp) (fun i hi => ?_) (fun x hx => (h3 x hx).1) h hs he
  · have : (Array.replicate ops.size false).getD y false = false := by
      rw [Array.getD_eq_getD_getElem?]
      by_cases hy' : y < ops.size
      · simp [hy']
      · simp [hy']
    rw [this] at hy; cases hy
  · constructor
    · intro _; exact all_there h1 h2 (fun x hx => (h3 x hx).1) i hi
    · intro _; simp [Array.getD_eq_getD_getElem?, hi]
end Go.Vc
