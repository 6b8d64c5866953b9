/- Regions whose order is open: a plan, and why it is enough. -/
import Derived.Test.YtbenllhoofoahaaVcF
namespace Go.Vc
open Go.RowKit
set_option linter.unusedVariables false
set_option linter.unusedSimpArgs false
variable {P : Program} {w0 w : World} {κ X ψ M : Mem} {n : Nat} {a : Act} {env : Env} {Q : Exit → Act → World → Prop}

/-! ### What an operation looks at -/
theorem parts_congr {ρ ρ' : Operand → Value} {ps : Array (Nat × Operand)} (h : ∀ x ∈ (ps.toList.map (·.2)), ρ x = ρ' x) : (ps.map fun (i, x) => (i, ρ x)) = (ps.map fun (i, x) => (i, ρ' x)) :=
  Array.map_congr_left fun p hm => by
    obtain ⟨i, x⟩ := p
    have : ρ x = ρ' x := h x (List.mem_map.2 ⟨(i, x), by simpa using hm, rfl⟩)
    simp only [this]
theorem pv_congr {ρ ρ' : Operand → Value} {op : Op} (h : ∀ x ∈ op.operands, ρ x = ρ' x) : pv P ρ op = pv P ρ' op := by
  cases op
  case build t ps => simp only [pv]; rw [parts_congr fun x hx => h x (by simpa [Op.operands] using hx)]
  case makeFunc fn first cap =>
    simp only [pv]
    rw [Array.map_congr_left (xs := first) fun x hx => h x (by simp [Op.operands, hx]), Array.map_congr_left (xs := cap) fun x hx => h x (by simp [Op.operands, hx])]
  case slice T x lo hi mx =>
    cases mx with
    | some m => rfl
    | none =>
      have hx := h x (by simp [Op.operands])
      have hl : lo.map ρ = lo.map ρ' := by
        cases lo with
        | none => rfl
        | some l => simp only [Option.map_some]; rw [h l (by simp [Op.operands])]
      have hh : hi.map ρ = hi.map ρ' := by
        cases hi with
        | none => rfl
        | some l => simp only [Option.map_some]; rw [h l (by simp [Op.operands])]
      simp only [pv, hx, hl, hh]
  case call c =>
    obtain ⟨callee, args, ts⟩ := c
    cases callee with
    | builtin b => simp only [pv]; rw [Array.map_congr_left (xs := args) fun x hx => h x (by simp [Op.operands, Call.operands, hx])]
    | value f => rfl
    | invoke r m => rfl
  all_goals first | rfl | (simp only [Op.operands] at h; simp only [pv]; simp_all; done)
theorem val_congr {A : Mem} {ρ ρ' : Operand → Value} {op : Op} (h : ∀ x ∈ op.operands, ρ x = ρ' x) : val P A ρ op = val P A ρ' op := by
  cases op
  case load t x => simp only [val]; rw [h x (by simp [Op.operands])]
  all_goals exact pv_congr (P := P) h
theorem vcRaw_congr {lend : Bool} {ρ ρ' : Operand → Value} {op : Op} (h : ∀ x ∈ op.operands, ρ x = ρ' x) {K : Value → Mem → Mem → Prop} : vcRaw P κ lend op ρ K M ψ = vcRaw P κ lend op ρ' K M ψ := by
  cases op
  case store t x y => simp only [vcRaw]; rw [h x (by simp [Op.operands]), h y (by simp [Op.operands])]
  case alloc t => rfl
  case box t x => simp only [vcRaw]; rw [h x (by simp [Op.operands])]
  case buildSlice t k ps => simp only [vcRaw]; rw [parts_congr fun x hx => h x (by simpa [Op.operands] using hx)]
  case makeSlice t l c => simp only [vcRaw]; rw [h l (by simp [Op.operands]), h c (by simp [Op.operands])]
  case call c =>
    obtain ⟨callee, args, ts⟩ := c
    have ha : args.map ρ = args.map ρ' := Array.map_congr_left fun x hx => h x (by cases callee <;> simp [Op.operands, Call.operands, hx])
    cases callee with
    | value f => simp only [vcRaw, ha, h f (by simp [Op.operands, Call.operands])]
    | invoke r m => simp only [vcRaw]; rw [val_congr (op := .call ⟨.invoke r m, args, ts⟩) h]
    | builtin b =>
      cases b
      case append =>
        simp only [vcRaw]
        split
        · rename_i s x t t' hl _
          have hs := h s (by simp [Op.operands, Call.operands, ← Array.mem_toList_iff, hl])
          have hx := h x (by simp [Op.operands, Call.operands, ← Array.mem_toList_iff, hl])
          rw [hs, hx]
        · rfl
      case clear =>
        simp only [vcRaw]
        split
        · rename_i x t hl _
          have hx := h x (by simp [Op.operands, Call.operands, ← Array.mem_toList_iff, hl])
          rw [hx]
        · rfl
      all_goals (simp only [vcRaw]; rw [val_congr h])
  all_goals (simp only [vcRaw]; rw [val_congr h])

/-! ### New memory, in one form -/
def isB : Op → Bool
  | .alloc _ | .box .. | .buildSlice .. | .makeSlice .. => true
  | _ => false
def mkB (P : Program) (op : Op) (ρ : Operand → Value) : Option (Ent × (Nat → Value)) :=
  match op with
  | .alloc t => (zeroOf P t).map fun cs => (⟨t, cs, cs.length⟩, ptr)
  | .box t x => some (⟨t, (ρ x).cells.toList, (ρ x).cells.toList.length⟩, ptr)
  | .buildSlice t k parts => (builtS P t k (parts.map fun (i, x) => (i, ρ x)).toList).map fun r => (⟨r.1, r.2, r.2.length⟩, fun g => .slice (some ⟨g, 0, none⟩) k k)
  | .makeSlice t l c => (makeS P t (ρ l) (ρ c)).map fun r => (⟨r.1, r.2.1, r.2.1.length⟩, fun g => .slice (some ⟨g, 0, none⟩) r.2.2.1 r.2.2.2)
  | _ => none
theorem vcRaw_B {lend : Bool} {op : Op} {ρ : Operand → Value} {K : Value → Mem → Mem → Prop} (hB : isB op = true) :
    vcRaw P κ lend op ρ K M ψ ↔ ∃ e f, mkB P op ρ = some (e, f) ∧ ∀ g, Fresh κ ψ M g → K (f g) (upd M g (some e)) ψ := by
  cases op <;> simp only [isB] at hB <;> try (cases hB; done)
  · rename_i t
    simp only [vcRaw, mkB]
    constructor
    · rintro ⟨cs, h1, h2⟩; exact ⟨_, _, by rw [h1]; rfl, h2⟩
    · rintro ⟨e, f, h1, h2⟩
      simp only [Option.map_eq_some_iff] at h1
      obtain ⟨cs, h3, h4⟩ := h1
      simp only [Prod.mk.injEq] at h4
      obtain ⟨rfl, rfl⟩ := h4
      exact ⟨cs, h3, h2⟩
  · simp only [vcRaw, mkB]
    constructor
    · intro h; exact ⟨_, _, rfl, h⟩
    · rintro ⟨e, f, h1, h2⟩
      simp only [Option.some.injEq, Prod.mk.injEq] at h1
      obtain ⟨rfl, rfl⟩ := h1
      exact h2
  · simp only [vcRaw, mkB]
    constructor
    · rintro ⟨e, cs, h1, h2⟩; exact ⟨_, _, by rw [h1]; rfl, h2⟩
    · rintro ⟨e, f, h1, h2⟩
      simp only [Option.map_eq_some_iff] at h1
      obtain ⟨⟨e', cs⟩, h3, h4⟩ := h1
      simp only [Prod.mk.injEq] at h4
      obtain ⟨rfl, rfl⟩ := h4
      exact ⟨e', cs, h3, h2⟩
  · simp only [vcRaw, mkB]
    constructor
    · rintro ⟨e, cs, k, m, h1, h2⟩; exact ⟨_, _, by rw [h1]; rfl, h2⟩
    · rintro ⟨e, f, h1, h2⟩
      simp only [Option.map_eq_some_iff] at h1
      obtain ⟨⟨e', cs, k, m⟩, h3, h4⟩ := h1
      simp only [Prod.mk.injEq] at h4
      obtain ⟨rfl, rfl⟩ := h4
      exact ⟨e', cs, k, m, h3, h2⟩
theorem mkB_congr {ρ ρ' : Operand → Value} {op : Op} (h : ∀ x ∈ op.operands, ρ x = ρ' x) : mkB P op ρ = mkB P op ρ' := by
  cases op <;> simp only [mkB]
  · rename_i t x; rw [h x (by simp [Op.operands])]
  · rename_i t k ps; rw [parts_congr fun x hx => h x (by simpa [Op.operands] using hx)]
  · rename_i t l c; rw [h l (by simp [Op.operands]), h c (by simp [Op.operands])]

theorem ev_setd {d : Option Tmp} {v : Value} {x : Operand} (h : ∀ t, d = some t → x ≠ .tmp t) : ev (setd env d v) x = ev env x := by
  cases x with
  | tmp t => exact setd_ne fun e => h t e rfl
  | _ => rfl
theorem setd_comm {x y : Option Tmp} (v u : Value) (h : ∀ d, x = some d → y ≠ some d) : setd (setd env x v) y u = setd (setd env y u) x v := by
  cases x with
  | none => rfl
  | some d =>
    cases y with
    | none => rfl
    | some e => exact upd_comm env v u fun e' => h d rfl (by rw [e'])
/-- The operand values of o, where what is set is not looked at. -/
theorem ev_looks {ops : Array Oper} {o : Oper} {d : Option Tmp} {v : Value} (h : ∀ t, d = some t → t ∉ o.looksAt ops) : ∀ x ∈ o.op.operands, ev (setd env d v) x = ev env x :=
  fun x hx => ev_setd fun t ht hxt => h t ht (by
    subst hxt
    exact List.mem_append_left _ (List.mem_filterMap.2 ⟨.tmp t, by simpa using hx, rfl⟩))
theorem guard_looks {ops : Array Oper} {o : Oper} {j : Nat} {want : Bool} {g : Tmp} (hg : o.guard = some (j, want)) (hd : (ops[j]?).bind (·.dst) = some g) {d : Option Tmp} {v : Value} (h : ∀ t, d = some t → t ∉ o.looksAt ops) :
    setd env d v g = env g :=
  setd_ne fun e => h g e (by simp [Oper.looksAt, hg, hd])
/-- An operation is told the same where something is set that it does not look at, but for the state that K is given. -/
theorem vcG_put {lend : Bool} {ops : Array Oper} {o : Oper} {d : Option Tmp} {v : Value} {K : VP} (h : ∀ t, d = some t → t ∉ o.looksAt ops) (hd : ∀ t, d = some t → o.dst ≠ some t) :
    vcG P κ lend ops o K (setd env d v) M ψ = vcG P κ lend ops o (fun e M' ψ' => K (setd e d v) M' ψ') env M ψ := by
  have hops := ev_looks (env := env) (v := v) h
  have hc : ∀ u, setd (setd env d v) o.dst u = setd (setd env o.dst u) d v := fun u => setd_comm v u hd
  unfold vcG
  cases hg : o.guard with
  | none => simp only [vcRaw_congr hops, hc]
  | some jw =>
    obtain ⟨j, want⟩ := jw
    cases hdd : (ops[j]?).bind (·.dst) with
    | none => simp only [hdd]
    | some g => simp only [hdd, guard_looks hg hdd h, vcRaw_congr hops, val_congr hops, hc]

/-! ### An operation that only looks -/
/-- Its value. -/
def FA (P : Program) (κ : Mem) (ops : Array Oper) (o : Oper) (env : Env) (M ψ : Mem) (v : Value) : Prop :=
  match o.guard with
  | none => val P (all κ ψ M) (ev env) o.op = some v
  | some (j, want) =>
    match (ops[j]?).bind (·.dst) with
    | none => False
    | some d => ∃ b, boolOf (env d) = b ∧ (b = some want → (val P (all κ ψ M) (ev env) o.op).isSome = true) ∧ v = if b = some want then (val P (all κ ψ M) (ev env) o.op).getD undef else undef
theorem vcRaw_looks {lend : Bool} {op : Op} {ρ : Operand → Value} {K : Value → Mem → Mem → Prop} (hl : looks op = true) :
    vcRaw P κ lend op ρ K M ψ ↔ ∃ v, val P (all κ ψ M) ρ op = some v ∧ K v M ψ := by
  cases op <;> simp only [looks] at hl <;> (try (cases hl; done)) <;> (try exact Iff.rfl)
  rename_i c
  obtain ⟨callee, args, ts⟩ := c
  cases callee with
  | value f => cases hl
  | invoke r m => exact Iff.rfl
  | builtin b => cases b <;> first | (cases hl; done) | exact Iff.rfl
theorem vcG_looks {lend : Bool} {ops : Array Oper} {o : Oper} {K : VP} (hl : looks o.op = true) :
    vcG P κ lend ops o K env M ψ ↔ ∃ v, FA P κ ops o env M ψ v ∧ K (setd env o.dst v) M ψ := by
  unfold vcG FA
  cases hg : o.guard with
  | none => exact vcRaw_looks hl
  | some jw =>
    obtain ⟨j, want⟩ := jw
    cases hdd : (ops[j]?).bind (·.dst) with
    | none => simp [hdd]
    | some d =>
      simp only [hdd, hl, if_true]
      constructor
      · rintro ⟨b, h1, h2, h3⟩; exact ⟨_, ⟨b, h1, h2, rfl⟩, h3⟩
      · rintro ⟨v, ⟨b, h1, h2, rfl⟩, h3⟩; exact ⟨b, h1, h2, h3⟩
theorem loadV_mono {A B : Mem} (hAB : Le A B) {t : TypeId} {p v : Value} (h : loadV P A t p = some v) : loadV P B t p = some v := by
  unfold loadV at h ⊢
  split at h
  · rename_i b o
    cases ha : A b with
    | none => rw [ha] at h; cases h
    | some e => rw [ha] at h; rw [hAB b e ha]; exact h
  · cases h
def isLoad : Op → Bool
  | .load .. => true
  | _ => false
theorem val_mono {A B : Mem} (hAB : Le A B) {ρ : Operand → Value} {op : Op} {v : Value} (h : val P A ρ op = some v) : val P B ρ op = some v := by
  cases op
  case load t x => exact loadV_mono hAB h
  all_goals exact h
theorem val_pure {A B : Mem} {ρ : Operand → Value} {op : Op} (hl : isLoad op = false) : val P A ρ op = val P B ρ op := by
  cases op
  case load t x => cases hl
  all_goals rfl
theorem FA_mono {ops : Array Oper} {o : Oper} {v : Value} {M' ψ' : Mem} (hle : Le (all κ ψ M) (all κ ψ' M') ∨ isLoad o.op = false) (h : FA P κ ops o env M ψ v) : FA P κ ops o env M' ψ' v := by
  have hv : ∀ u, val P (all κ ψ M) (ev env) o.op = some u → val P (all κ ψ' M') (ev env) o.op = some u := fun u hu => by
    rcases hle with hle | hle
    · exact val_mono hle hu
    · rw [← hu]; exact val_pure hle
  unfold FA at h ⊢
  split at h
  · exact hv v h
  · rename_i j want hg
    split at h
    · exact h
    · obtain ⟨b, h1, h2, h3⟩ := h
      refine ⟨b, h1, fun hb => ?_, ?_⟩
      · obtain ⟨u, hu⟩ := Option.isSome_iff_exists.1 (h2 hb); rw [hv u hu]; rfl
      · rw [h3]
        by_cases hb : b = want
        · rw [if_pos hb, if_pos hb]
          obtain ⟨u, hu⟩ := Option.isSome_iff_exists.1 (h2 hb)
          rw [hu, hv u hu]
        · rw [if_neg hb, if_neg hb]
theorem FA_put {ops : Array Oper} {o : Oper} {v u : Value} {d : Option Tmp} (hd : ∀ t, d = some t → t ∉ o.looksAt ops) (h : FA P κ ops o env M ψ v) : FA P κ ops o (setd env d u) M ψ v := by
  have hops := ev_looks (env := env) (v := u) hd
  unfold FA at h ⊢
  cases hg : o.guard with
  | none => simp only [hg] at h ⊢; rw [val_congr hops]; exact h
  | some jw =>
    obtain ⟨j, want⟩ := jw
    simp only [hg] at h ⊢
    cases hdd : (ops[j]?).bind (·.dst) with
    | none => rw [hdd] at h; exact h
    | some g =>
      rw [hdd] at h
      simp only [guard_looks hg hdd hd, val_congr hops]
      exact h
end Go.Vc
