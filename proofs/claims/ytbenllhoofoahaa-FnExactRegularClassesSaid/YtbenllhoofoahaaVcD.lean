/- Operations that make memory, calls, append; the rule for one operation. -/
import Derived.Test.YtbenllhoofoahaaVcC
import Derived.OwnWalk
namespace Go.Vc
open Go.RowKit
set_option linter.unusedVariables false
set_option linter.unusedSimpArgs false
variable {P : Program} {w0 w : World} {κ X ψ M : Mem}

abbrev VP := Env → Mem → Mem → Prop

def ev (env : Env) : Operand → Value
  | .tmp t => env t
  | .const v => v
  | .global g => .pointer (some ⟨g, 0, none⟩)
  | .func f => .func (.func f) #[] #[]
def setd (env : Env) (d : Option Tmp) (v : Value) : Env :=
  match d with
  | some d => upd env d v
  | none => env
def ptr (g : Nat) : Value := .pointer (some ⟨g, 0, none⟩)

structure EnvOk (n : Nat) (a : Act) (env : Env) : Prop where
  size : a.tmps.size = n
  get : ∀ t, a.tmps.getD t undef = env t
  defers : a.defers = []
theorem EnvOk.eval {n : Nat} {a : Act} {env : Env} (h : EnvOk n a env) : a.eval = ev env := by
  funext x
  cases x <;> simp only [Act.eval, ev]
  exact h.get _
theorem EnvOk.put {n : Nat} {a : Act} {env : Env} (h : EnvOk n a env) {d : Option Tmp} (hd : ∀ t, d = some t → t < n) (v : Value) : EnvOk n (a.put d v) (setd env d v) := by
  cases d with
  | none => exact h
  | some t =>
    have ht := hd t rfl
    refine ⟨by simp [Act.put, h.size], fun s => ?_, h.defers⟩
    simp only [Act.put, setd, upd]
    by_cases hs : s = t
    · subst hs
      rw [if_pos rfl]
      simp [Array.getD_eq_getD_getElem?, h.size, ht]
    · rw [if_neg hs, ← h.get s]
      simp [Array.getD_eq_getD_getElem?, Array.getElem?_setIfInBounds_ne (Ne.symm hs)]

def Fresh (κ ψ M : Mem) (g : Nat) : Prop := M g = none ∧ ψ g = none ∧ κ g = none

/-! ### Calls -/
/-- The function, called where X is lent and κ is known, returns; R tells its value, what it hands over (M) and what it has laid down (ψ). -/
def callOk (P : Program) (f : FuncId) : Bool :=
  match P.funcs[f]? with
  | some fn => fn.body.isSome && fn.name != "runtime.NumGoroutine"
  | none => false
def CallsX (P : Program) (f : FuncId) (args : Array Value) (X κ : Mem) (R : Value → Mem → Mem → Prop) : Prop :=
  callOk P f = true ∧ ∀ w, Sat w κ X none' X w → Calls P f args w fun e w' => ∃ v M ψ, e = .returned v ∧ R v M ψ ∧ Sat w κ X ψ M w'
def CallsF (P : Program) (fv : Value) (args : Array Value) (X κ : Mem) (R : Value → Mem → Mem → Prop) : Prop :=
  match fv with
  | .func (.func id) first cap => CallsX P id (first ++ args ++ cap) X κ R
  | _ => False
def Split (M L Mr : Mem) : Prop := ∀ b, (L b = none ∧ Mr b = M b) ∨ (Mr b = none ∧ L b = M b)
theorem Split.none (M : Mem) : Split M none' M := fun b => .inl ⟨rfl, rfl⟩
theorem run_callF {fv : Value} {id : FuncId} {first cap args : Array Value} (hf : fv = .func (.func id) first cap) (hok : callOk P id = true) (ρ : Operand → Value) (f : Operand) (xs : Array Operand) (ts : Array TypeId) (o : Oper)
    (ho : o.op = .call { callee := .value f, args := xs, argTypes := ts }) (hfv : ρ f = fv) (hargs : xs.map ρ = args) (w : World) :
    (execOp ρ o).run P w = .ok (.enter id (first ++ args ++ cap)) w := by
  unfold callOk at hok
  cases hfn : P.funcs[id]? with
  | none => simp [hfn] at hok
  | some fn =>
    simp only [hfn, Bool.and_eq_true, bne_iff_ne, ne_eq] at hok
    obtain ⟨h1, h2⟩ := hok
    cases hb : fn.body with
    | none => simp [hb] at h1
    | some bd => simp [execOp, ho, resolve, hfv, hf, hargs, Deferred.ofValue, invoke, callFunc, hfn, h2, hb]

def VCall (P : Program) (κ : Mem) (fv : Value) (args : Array Value) (K : Value → Mem → Mem → Prop) (M ψ : Mem) : Prop :=
  ∃ L Mr R, Split M L Mr ∧ CallsF P fv args L (all κ ψ Mr) R ∧
    ∀ v M' ψ', R v M' ψ' → (∀ b, (Mr b ≠ none ∨ ψ b ≠ none ∨ κ b ≠ none) → M' b = none ∧ ψ' b = none) → K v (over Mr M') (over ψ ψ')

theorem Sat.lend (h : Sat w0 κ X ψ M w) {L Mr : Mem} (hs : Split M L Mr) : Sat w (all κ ψ Mr) L none' L w := by
  have hL : ∀ b e, L b = some e → M b = some e ∧ Mr b = none := fun b e hb => by
    rcases hs b with ⟨h1, h2⟩ | ⟨h1, h2⟩
    · rw [h1] at hb; cases hb
    · exact ⟨h2 ▸ hb, h1⟩
  have hR : ∀ b e, Mr b = some e → M b = some e ∧ L b = none := fun b e hb => by
    rcases hs b with ⟨h1, h2⟩ | ⟨h1, h2⟩
    · exact ⟨h2 ▸ hb, h1⟩
    · rw [h1] at hb; cases hb
  have hM : ∀ b, M b = none → L b = none := fun b hb => by
    cases hl : L b with
    | none => rfl
    | some e => rw [(hL b e hl).1] at hb; cases hb
  refine ⟨Same.refl _ _ _, fun b e hb => ⟨.inr (by simp [hb]), (h.own b e (hL b e hb).1).2⟩, fun b e hb => (by cases hb), fun b e hb => ?_⟩
  simp only [all, over] at hb
  cases hm : Mr b with
  | some x =>
    rw [hm] at hb
    simp only [Option.some_or, Option.some.injEq] at hb
    subst hb
    have hw := (h.own b x (hR b x hm).1).2
    exact ⟨hw.lt, (hR b x hm).2, hw.knows⟩
  | none =>
    rw [hm] at hb
    cases hp : ψ b with
    | some x =>
      rw [hp] at hb
      simp only [Option.none_or, Option.some_or, Option.some.injEq] at hb
      subst hb
      obtain ⟨_, h2, h3⟩ := h.laid b x hp
      exact ⟨h2.lt, hM b h3, h2⟩
    | none =>
      rw [hp] at hb
      simp only [Option.none_or] at hb
      have h2 := h.kn hb
      refine ⟨h2.lt, hM b ?_, h2⟩
      cases hmm : M b with
      | none => rfl
      | some x =>
        obtain ⟨h3, _⟩ := h.own b x hmm
        obtain ⟨h4, h5, _⟩ := h.known b e hb
        rcases h3 with h3 | h3
        · omega
        · exact absurd h5 h3

theorem Sat.back (h : Sat w0 κ X ψ M w) {L Mr M' ψ' : Mem} {w' : World} (hs : Split M L Mr) (h' : Sat w (all κ ψ Mr) L ψ' M' w') : Sat w0 κ X (over ψ ψ') (over Mr M') w' := by
  have hR : ∀ b e, Mr b = some e → M b = some e ∧ L b = none := fun b e hb => by
    rcases hs b with ⟨h1, h2⟩ | ⟨h1, h2⟩
    · exact ⟨h2 ▸ hb, h1⟩
    · rw [h1] at hb; cases hb
  have hL : ∀ b, L b ≠ none → M b ≠ none := fun b hb => by
    rcases hs b with ⟨h1, h2⟩ | ⟨h1, h2⟩
    · exact absurd h1 hb
    · rw [← h2]; exact hb
  have hX : ∀ b, L b ≠ none → w0.heap.size ≤ b ∨ X b ≠ none := fun b hb => by
    cases hm : M b with
    | none => exact absurd hm (hL b hb)
    | some e => exact (h.own b e hm).1
  have hM' : ∀ b e, M' b = some e → b < w.heap.size → L b ≠ none := fun b e hb hlt => by
    rcases (h'.own b e hb).1 with h1 | h1
    · omega
    · exact h1
  refine ⟨h.same.trans ⟨h'.same.os, h'.same.tape, h'.same.output, h'.same.size, fun k hk hx => ?_⟩, fun b e hb => ?_, fun b e hb => ?_, h.known⟩
  · refine h'.same.block k (Nat.lt_of_lt_of_le hk h.same.size) ?_
    cases hl : L k with
    | none => rfl
    | some e =>
      rcases hX k (by simp [hl]) with h1 | h1
      · omega
      · exact absurd hx h1
  · simp only [over] at hb
    cases hm : Mr b with
    | some x =>
      rw [hm] at hb
      simp only [Option.some_or, Option.some.injEq] at hb
      subst hb
      obtain ⟨h1, h2⟩ := hR b x hm
      obtain ⟨h3, h4⟩ := h.own b x h1
      exact ⟨h3, h4.of_same (h'.same.block b h4.lt h2)⟩
    | none =>
      rw [hm] at hb
      simp only [Option.none_or] at hb
      obtain ⟨h1, h2⟩ := h'.own b e hb
      refine ⟨?_, h2⟩
      rcases h1 with h1 | h1
      · exact .inl (Nat.le_trans h.same.size h1)
      · exact hX b h1
  · simp only [over] at hb
    cases hp : ψ b with
    | some x =>
      rw [hp] at hb
      simp only [Option.some_or, Option.some.injEq] at hb
      subst hb
      obtain ⟨h1, h2, h3⟩ := h.laid b x hp
      have hlb : L b = none := by
        cases hl : L b with
        | none => rfl
        | some e => exact absurd h3 (hL b (by simp [hl]))
      refine ⟨h1, h2.of_same (h'.same.block b h2.lt hlb), ?_⟩
      simp only [over]
      have : Mr b = none := by
        cases hm : Mr b with
        | none => rfl
        | some e => rw [(hR b e hm).1] at h3; cases h3
      rw [this]
      simp only [Option.none_or]
      cases hm : M' b with
      | none => rfl
      | some e => exact absurd hlb (hM' b e hm h2.lt)
    | none =>
      rw [hp] at hb
      simp only [Option.none_or] at hb
      obtain ⟨h1, h2, h3⟩ := h'.laid b e hb
      refine ⟨Nat.le_trans h.same.size h1, h2, ?_⟩
      simp only [over, h3]
      cases hm : Mr b with
      | none => rfl
      | some x => have := (h.own b x (hR b x hm).1).2.lt; omega
theorem Sat.apart (h : Sat w0 κ X ψ M w) {L Mr M' ψ' : Mem} {w' : World} (hs : Split M L Mr) (h' : Sat w (all κ ψ Mr) L ψ' M' w') :
    ∀ b, (Mr b ≠ none ∨ ψ b ≠ none ∨ κ b ≠ none) → M' b = none ∧ ψ' b = none := by
  intro b hb
  have h2 := h.lend hs
  have : ∃ e, all κ ψ Mr b = some e := by
    simp only [all, over]
    rcases hb with hb | hb | hb
    · obtain ⟨e, he⟩ := Option.ne_none_iff_exists'.1 hb; exact ⟨e, by simp [he]⟩
    · obtain ⟨e, he⟩ := Option.ne_none_iff_exists'.1 hb
      cases hm : Mr b <;> simp [he]
    · obtain ⟨e, he⟩ := Option.ne_none_iff_exists'.1 hb
      cases hm : Mr b <;> cases hp : ψ b <;> simp [he]
  obtain ⟨e, he⟩ := this
  obtain ⟨h3, h4, h5⟩ := h2.known b e he
  constructor
  · cases hm : M' b with
    | none => rfl
    | some x =>
      rcases (h'.own b x hm).1 with h6 | h6
      · omega
      · exact absurd h4 h6
  · cases hm : ψ' b with
    | none => rfl
    | some x => have := (h'.laid b x hm).1; omega

/-! ### New memory -/
def zeroOf (P : Program) (t : TypeId) : Option (List Value) := ((P.info? t).bind (·.zero)).map fun z => z.cells.toList
def builtS (P : Program) (t : TypeId) (len : Nat) (parts : List (Nat × Value)) : Option (TypeId × List Value) :=
  match P.underlying t with
  | some (.slice e) =>
    if len * P.cellsOf e ≤ 16777216 then
      match P.info? e, (if len * P.cellsOf e = 0 then some #[] else ((P.info? e).bind (·.zero)).map (·.cells)) with
      | some _, some z => (Instr.fill (fun i => some (i * P.cellsOf e, P.cellsOf e)) ((Array.range (len * P.cellsOf e)).map (z[· % z.size]!)) parts).map fun c => (e, c.toList)
      | _, _ => none
    else none
  | _ => none
def makeS (P : Program) (t : TypeId) (l c : Value) : Option (TypeId × List Value × Nat × Nat) :=
  match P.underlying t, l, c with
  | some (.slice e), .int _ l, .int _ c =>
    match P.info? e, (if c.toNat * P.cellsOf e = 0 then some #[] else ((P.info? e).bind (·.zero)).map (·.cells)) with
    | some i, some z => if 0 ≤ l ∧ l ≤ c ∧ i.bytes * c ≤ 281474976710656 ∧ c ≤ 9223372036854775807 then
        some (e, ((Array.range (c.toNat * P.cellsOf e)).map (z[· % z.size]!)).toList, l.toNat, c.toNat) else none
    | _, _ => none
  | _, _, _ => none

/-- The elements of a slice that is read. -/
def readS (P : Program) (A : Mem) (e : TypeId) (x : Value) : Option (Nat × List Value) :=
  match x with
  | .slice (some ⟨b, o, none⟩) m _ => match A b with
    | some en => if o + m * P.cellsOf e ≤ en.cs.length then some (m, (en.cs.drop o).take (m * P.cellsOf e)) else none
    | none => none
  | _ => none
/-- The elements of a slice of the call's own, and what is left of the call's own memory. -/
def ownS (P : Program) (M : Mem) (e : TypeId) (s : Value) : Option (Nat × List Value × Mem) :=
  match s with
  | .slice none 0 0 => some (0, [], M)
  | .slice (some ⟨b, 0, none⟩) n c => match M b with
    | some en => if en.ty = e ∧ en.cs.length = n * P.cellsOf e ∧ en.tot = c * P.cellsOf e ∧ n ≤ c ∧ c ≤ maxLen then some (n, en.cs, upd M b none) else none
    | none => none
  | _ => none
def appendOk (P : Program) (e : TypeId) : Bool :=
  match P.info? e with
  | some i => (match i.zero with | some z => z.cells.size == i.size && 0 < i.size | none => false)
  | none => false
def VAppend (P : Program) (κ : Mem) (t : TypeId) (s x : Value) (K : Value → Mem → Mem → Prop) (M ψ : Mem) : Prop :=
  ∃ e, P.underlying t = some (.slice e) ∧ appendOk P e = true ∧ ∃ m xs, readS P (all κ ψ M) e x = some (m, xs) ∧ xs.all (·.oneCell') = true ∧
  ∃ n cs M1, ownS P M e s = some (n, cs, M1) ∧ (n = 0 → 0 < m) ∧ (n + m) * P.bytesOf e ≤ 140737488355328 ∧ n + m ≤ maxLen ∧
    ∀ g c, Fresh κ ψ M1 g → n + m ≤ c → c ≤ maxLen → K (.slice (some ⟨g, 0, none⟩) (n + m) c) (upd M1 g (some ⟨e, cs ++ xs, c * P.cellsOf e⟩)) ψ

/-- The value of an operation that only looks. -/
def val (P : Program) (A : Mem) (ρ : Operand → Value) (op : Op) : Option Value :=
  match op with
  | .load t x => loadV P A t (ρ x)
  | op => pv P ρ op

/-- A call that is lent nothing. -/
def VCall0 (P : Program) (κ : Mem) (fv : Value) (args : Array Value) (K : Value → Mem → Mem → Prop) (M ψ : Mem) : Prop :=
  ∃ R, CallsF P fv args none' (all κ ψ M) R ∧
    ∀ v M' ψ', R v M' ψ' → (∀ b, (M b ≠ none ∨ ψ b ≠ none ∨ κ b ≠ none) → M' b = none ∧ ψ' b = none) → K v (over M M') (over ψ ψ')
theorem VCall0.vcall {fv : Value} {args : Array Value} {K : Value → Mem → Mem → Prop} (h : VCall0 P κ fv args K M ψ) : VCall P κ fv args K M ψ := by
  obtain ⟨R, h1, h2⟩ := h
  exact ⟨none', M, R, Split.none M, h1, h2⟩

/-- What is owned behind a clear of a slice. -/
def clearV (P : Program) (M : Mem) (t : TypeId) (x : Value) : Option Mem :=
  match P.underlying t, x with
  | some (.slice e), .slice (some ⟨b, o, none⟩) n _ => if n = 0 then some M else
    match (P.info? e).bind (·.zero), M b with
    | some z, some en => if o + (Builtin.zeroCells z.cells n).toList.length ≤ en.cs.length ∧ (Builtin.zeroCells z.cells n).toList.all (·.oneCell') = true then
        some (upd M b (some { en with cs := put en.cs o (Builtin.zeroCells z.cells n).toList })) else none
    | _, _ => none
  | _, _ => none
/-- What is to be shown ahead of an operation, of its operands' values; K is told its value. -/
def vcRaw (P : Program) (κ : Mem) (lend : Bool) (op : Op) (ρ : Operand → Value) (K : Value → Mem → Mem → Prop) (M ψ : Mem) : Prop :=
  match op with
  | .store t x y => ∃ M', storeV P M t (ρ x) (ρ y) = some M' ∧ K undef M' ψ
  | .alloc t => ∃ cs, zeroOf P t = some cs ∧ ∀ g, Fresh κ ψ M g → K (ptr g) (upd M g (some ⟨t, cs, cs.length⟩)) ψ
  | .box t x => ∀ g, Fresh κ ψ M g → K (ptr g) (upd M g (some ⟨t, (ρ x).cells.toList, (ρ x).cells.toList.length⟩)) ψ
  | .buildSlice t n parts => ∃ e cs, builtS P t n (parts.map fun (i, x) => (i, ρ x)).toList = some (e, cs) ∧
      ∀ g, Fresh κ ψ M g → K (.slice (some ⟨g, 0, none⟩) n n) (upd M g (some ⟨e, cs, cs.length⟩)) ψ
  | .makeSlice t l c => ∃ e cs n m, makeS P t (ρ l) (ρ c) = some (e, cs, n, m) ∧
      ∀ g, Fresh κ ψ M g → K (.slice (some ⟨g, 0, none⟩) n m) (upd M g (some ⟨e, cs, cs.length⟩)) ψ
  | .call { callee := .value f, args, .. } => if lend = true then VCall P κ (ρ f) (args.map ρ) K M ψ else VCall0 P κ (ρ f) (args.map ρ) K M ψ
  | .call { callee := .builtin .append, args, argTypes } =>
    (match args.toList, argTypes.toList with
      | [s, x], [t, t'] => t = t' ∧ VAppend P κ t (ρ s) (ρ x) K M ψ
      | _, _ => False)
  | .call { callee := .builtin .clear, args, argTypes } =>
    (match args.toList, argTypes.toList with
      | [x], [t] => ∃ M', clearV P M t (ρ x) = some M' ∧ K (.tuple #[]) M' ψ
      | _, _ => False)
  | op => ∃ v, val P (all κ ψ M) ρ op = some v ∧ K v M ψ
def vcOp (P : Program) (κ : Mem) (o : Oper) (K : VP) : VP := fun env M ψ => vcRaw P κ true o.op (ev env) (fun v => K (setd env o.dst v)) M ψ
end Go.Vc
