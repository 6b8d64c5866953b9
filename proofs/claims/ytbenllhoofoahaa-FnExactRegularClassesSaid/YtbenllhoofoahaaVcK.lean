/- The rules by which simp works out what is to be shown. -/
import Derived.Test.YtbenllhoofoahaaVcJ
import Derived.IntWalk
namespace Go.Vc
open Go.RowKit
set_option linter.unusedVariables false
set_option linter.unusedSimpArgs false
/-- What is to be shown next: it stands where simp does not look for it (as an instance), until its turn comes. -/
class Kt (α : Type) where
  k : α
def bindV (o : Option Value) [F : Kt (Value → Mem → Mem → Prop)] (M ψ : Mem) : Prop := ∃ v, o = some v ∧ F.k v M ψ
def bindM (o : Option Mem) [F : Kt (Mem → Prop)] : Prop := ∃ M, o = some M ∧ F.k M
def bindB (v : Value) [F : Kt (Bool → Prop)] : Prop := ∃ b, v = .bool b ∧ F.k b
def bindC (o : Option (TypeId × List Value)) [F : Kt (TypeId → List Value → Prop)] : Prop := ∃ e cs, o = some (e, cs) ∧ F.k e cs
def bindL (o : Option (List Value)) [F : Kt (List Value → Prop)] : Prop := ∃ cs, o = some cs ∧ F.k cs
def bindK (o : Option (TypeId × List Value × Nat × Nat)) [F : Kt (TypeId → List Value → Nat → Nat → Prop)] : Prop := ∃ e cs n m, o = some (e, cs, n, m) ∧ F.k e cs n m
def gate (b : Option Bool) (want : Bool) [F : Kt (Bool → Prop)] : Prop := F.k (b == some want)
def ifB (b : Bool) [F : Kt (Bool → Prop)] : Prop := F.k b
def anew (κ ψ M : Mem) [F : Kt (Nat → Prop)] : Prop := ∀ g, Fresh κ ψ M g → F.k g
def callB (P : Program) (κ : Mem) (f : Value) (args : Array Value) [F : Kt (Value → Mem → Mem → Prop)] (M ψ : Mem) : Prop := VCall P κ f args F.k M ψ
def callB0 (P : Program) (κ : Mem) (f : Value) (args : Array Value) [F : Kt (Value → Mem → Mem → Prop)] (M ψ : Mem) : Prop := VCall0 P κ f args F.k M ψ
def appendB (P : Program) (κ : Mem) (t : TypeId) (s x : Value) [F : Kt (Value → Mem → Mem → Prop)] (M ψ : Mem) : Prop := VAppend P κ t s x F.k M ψ
class Ck where
  c : Code
  q : Exit → VP
def run (P : Program) (κ X : Mem) [C : Ck] (env : Env) (M ψ : Mem) : Prop := vc P κ X C.c C.q env M ψ
class Ok where
  ops : Array Oper
  k : VP
  l : List Oper
def runO (P : Program) (κ : Mem) [C : Ok] (env : Env) (M ψ : Mem) : Prop := vcOps P κ C.ops C.k C.l env M ψ
class Pk where
  ops : Array Oper
  k : VP
  l : List (Nat × List Nat)
def runP (P : Program) (κ : Mem) [C : Pk] (env : Env) (M ψ : Mem) : Prop := vcPlan P κ C.ops C.k C.l env M ψ
class Gk where
  lend : Bool
  ops : Array Oper
  o : Oper
  k : VP
def runG (P : Program) (κ : Mem) [C : Gk] (env : Env) (M ψ : Mem) : Prop := vcG P κ C.lend C.ops C.o C.k env M ψ
def raw (P : Program) (κ : Mem) (lend : Bool) (op : Op) [F : Kt (Value → Mem → Mem → Prop)] (ρ : Operand → Value) (M ψ : Mem) : Prop := vcRaw P κ lend op ρ F.k M ψ
def after (Q : Exit → VP) (e : Exit) (env : Env) (M ψ : Mem) : Prop := Q e env M ψ
class Rk where
  l : List Oper
  k : Oper → Prop
def nthG (i : Nat) [C : Rk] : Prop := match C.l[i]? with | some o => C.k o | none => False

theorem bindV_some (v : Value) (F : Value → Mem → Mem → Prop) (M ψ : Mem) : @bindV (some v) ⟨F⟩ M ψ = F v M ψ := by simp [bindV]
theorem bindM_some (v : Mem) (F : Mem → Prop) : @bindM (some v) ⟨F⟩ = F v := by simp [bindM]
theorem bindB_bool (b : Bool) (F : Bool → Prop) : @bindB (.bool b) ⟨F⟩ = F b := by simp [bindB]
theorem bindC_some (e : TypeId) (cs : List Value) (F : TypeId → List Value → Prop) : @bindC (some (e, cs)) ⟨F⟩ = F e cs := propext ⟨fun ⟨_, _, h1, h2⟩ => by injection h1 with h1; injection h1 with h1 h3; subst h1 h3; exact h2, fun h => ⟨e, cs, rfl, h⟩⟩
theorem bindL_some (cs : List Value) (F : List Value → Prop) : @bindL (some cs) ⟨F⟩ = F cs := by simp [bindL]
theorem bindK_some (e : TypeId) (cs : List Value) (n m : Nat) (F : TypeId → List Value → Nat → Nat → Prop) : @bindK (some (e, cs, n, m)) ⟨F⟩ = F e cs n m := propext ⟨fun ⟨_, _, _, _, h1, h2⟩ => by injection h1 with h1; injection h1 with h1 h3; injection h3 with h3 h4; injection h4 with h4 h5; subst h1 h3 h4 h5; exact h2, fun h => ⟨e, cs, n, m, rfl, h⟩⟩
theorem beq_tt : (true == true) = true := rfl
theorem beq_tf : (true == false) = false := rfl
theorem beq_ft : (false == true) = false := rfl
theorem beq_ff : (false == false) = true := rfl
theorem ft_eq : (false = true) = False := by simp
theorem tf_eq : (true = false) = False := by simp
theorem gate_tt (F : Bool → Prop) : @gate (some true) true ⟨F⟩ = F true := rfl
theorem gate_ff (F : Bool → Prop) : @gate (some false) false ⟨F⟩ = F true := rfl
theorem gate_tf (F : Bool → Prop) : @gate (some true) false ⟨F⟩ = F false := rfl
theorem gate_ft (F : Bool → Prop) : @gate (some false) true ⟨F⟩ = F false := rfl
theorem gate_n (w : Bool) (F : Bool → Prop) : @gate none w ⟨F⟩ = F false := by cases w <;> rfl
theorem boolOf_b (b : Bool) : boolOf (.bool b) = some b := rfl
theorem boolOf_u : boolOf undef = none := rfl
theorem ifB_true (F : Bool → Prop) : @ifB true ⟨F⟩ = F true := rfl
theorem ifB_false (F : Bool → Prop) : @ifB false ⟨F⟩ = F false := rfl
theorem ifB_dec {p : Prop} [Decidable p] {F : Bool → Prop} (h1 : p → F true) (h2 : ¬ p → F false) : @ifB (decide p) ⟨F⟩ := by
  by_cases h : p
  · simpa [ifB, h] using h1 h
  · simpa [ifB, h] using h2 h
theorem ifB_ndec {p : Prop} [Decidable p] {F : Bool → Prop} (h1 : ¬ p → F true) (h2 : p → F false) : @ifB (!decide p) ⟨F⟩ := by
  by_cases h : p
  · simpa [ifB, h] using h2 h
  · simpa [ifB, h] using h1 h
theorem ifB_or {b : Bool} {F : Bool → Prop} (h1 : b = true → F true) (h2 : b = false → F false) : @ifB b ⟨F⟩ := by
  cases b
  · exact h2 rfl
  · exact h1 rfl
theorem anew_intro {κ ψ M : Mem} {F : Nat → Prop} (h : ∀ g, M g = none → ψ g = none → κ g = none → F g) : @anew κ ψ M ⟨F⟩ := fun g hg => h g hg.1 hg.2.1 hg.2.2
theorem callB_gives {P : Program} {κ M ψ : Mem} {f : FuncId} {args : Array Value} {v : Value} {F : Value → Mem → Mem → Prop} (h : Gives P f args.toList (all κ ψ M) v) (hk : F v M ψ) : @callB P κ (.func (.func f) #[] #[]) args ⟨F⟩ M ψ := VCall.returns h hk
theorem callB_fv {P : Program} {κ M ψ : Mem} {f : FuncId} {first cap args : Array Value} {l : List Value} {v : Value} {F : Value → Mem → Mem → Prop} (he : (first ++ args ++ cap).toList = l) (h : Gives P f l (all κ ψ M) v) (hk : F v M ψ) :
    @callB P κ (.func (.func f) first cap) args ⟨F⟩ M ψ := by
  refine VCall0.vcall ⟨fun r M' ψ' => r = v ∧ M' = none' ∧ ψ' = none', ?_, ?_⟩
  · have : first ++ args ++ cap = l.toArray := by rw [← he]
    unfold Gives at h
    simp only [CallsF, this]; exact h
  · rintro r M' ψ' ⟨rfl, rfl, rfl⟩ _
    rw [over_none', over_none']; exact hk
theorem callB0_gives {P : Program} {κ M ψ : Mem} {f : FuncId} {args : Array Value} {v : Value} {F : Value → Mem → Mem → Prop} (h : Gives P f args.toList (all κ ψ M) v) (hk : F v M ψ) : @callB0 P κ (.func (.func f) #[] #[]) args ⟨F⟩ M ψ := VCall0.returns h hk
section
variable {P : Program} {κ X ψ M : Mem} {env : Env} {ops : Array Oper} {K : VP} {lend : Bool} {ρ : Operand → Value} {F : Value → Mem → Mem → Prop}

theorem s_upd {α : Type} (f : Nat → α) (k : Nat) (x : α) (t : Nat) : upd f k x t = if t = k then x else f t := rfl
theorem s_evt (t : Tmp) : ev env (.tmp t) = env t := rfl
theorem s_evc (v : Value) : ev env (.const v) = v := rfl
theorem s_evg (g : Nat) : ev env (.global g) = .pointer (some ⟨g, 0, none⟩) := rfl
theorem s_evf (f : FuncId) : ev env (.func f) = .func (.func f) #[] #[] := rfl
theorem s_setd (d : Tmp) (v : Value) : setd env (some d) v = upd env d v := rfl
theorem s_setn (v : Value) : setd env none v = env := rfl
theorem s_nil : @runO P κ ⟨ops, K, []⟩ env M ψ = K env M ψ := rfl
theorem s_cons (o : Oper) (r : List Oper) : @runO P κ ⟨ops, K, o :: r⟩ env M ψ = @runG P κ ⟨true, ops, o, fun e M ψ => @runO P κ ⟨ops, K, r⟩ e M ψ⟩ env M ψ := rfl
theorem s_pnil : @runP P κ ⟨ops, K, []⟩ env M ψ = K env M ψ := rfl
theorem s_g (dst : Option Tmp) (op : Op) (ty : TypeId) (pos : String) (after : Array Edge) :
    @runG P κ ⟨lend, ops, ⟨dst, op, ty, pos, after, none⟩, K⟩ env M ψ = @raw P κ lend op ⟨fun v M ψ => K (setd env dst v) M ψ⟩ (ev env) M ψ := rfl
theorem s_gg (dst : Option Tmp) (op : Op) (ty : TypeId) (pos : String) (after : Array Edge) (j : Nat) (want : Bool) (l : List Oper) :
    @runG P κ ⟨lend, l.toArray, ⟨dst, op, ty, pos, after, some (j, want)⟩, K⟩ env M ψ = @nthG j ⟨l, fun o => (match o.dst with
    | none => False
    | some d => @gate (boolOf (env d)) want ⟨fun on => match on with
        | true => @raw P κ lend op ⟨fun v M ψ => K (setd env dst v) M ψ⟩ (ev env) M ψ
        | false => K (setd env dst undef) M ψ⟩)⟩ := by
  simp only [runG, nthG, vcG, List.getElem?_toArray]
  cases l[j]? with
  | none => rfl
  | some o =>
    simp only [Option.bind_some]
    cases o.dst with
    | none => rfl
    | some d =>
      simp only [gate, raw, exists_eq_left']
      by_cases hb : boolOf (env d) = some want
      · rw [hb]
        have : (some want == some want) = true := by cases want <;> rfl
        rw [this]
        by_cases hl : looks op = true
        · rw [if_pos hl]
          refine propext ⟨fun ⟨h1, h2⟩ => ?_, fun h => ?_⟩
          · obtain ⟨v, hv⟩ := Option.isSome_iff_exists.1 (h1 rfl)
            rw [if_pos rfl, hv] at h2
            exact (vcRaw_looks hl).2 ⟨v, hv, h2⟩
          · obtain ⟨v, hv, h2⟩ := (vcRaw_looks hl).1 h
            exact ⟨fun _ => by rw [hv]; rfl, by rw [if_pos rfl, hv]; exact h2⟩
        · rw [if_neg hl]
          exact propext ⟨fun h => h.1 rfl, fun h => ⟨fun _ => h, fun h' => (h' rfl).elim⟩⟩
      · have : (boolOf (env d) == some want) = false := by simpa using hb
        rw [this]
        by_cases hl : looks op = true
        · rw [if_pos hl, if_neg hb]
          exact propext ⟨fun h => h.2, fun h => ⟨fun h' => (hb h').elim, h⟩⟩
        · rw [if_neg hl]
          exact propext ⟨fun h => h.2 hb, fun h => ⟨fun h' => (hb h').elim, fun _ => h⟩⟩
theorem s_store (t : TypeId) (x y : Operand) : @raw P κ lend (.store t x y) ⟨F⟩ ρ M ψ = @bindM (storeV P M t (ρ x) (ρ y)) ⟨fun M' => F undef M' ψ⟩ := rfl
theorem s_alloc (t : TypeId) : @raw P κ lend (.alloc t) ⟨F⟩ ρ M ψ = @bindL (zeroOf P t) ⟨fun cs => @anew κ ψ M ⟨fun g => F (ptr g) (upd M g (some ⟨t, cs, cs.length⟩)) ψ⟩⟩ := rfl
theorem s_box (t : TypeId) (x : Operand) : @raw P κ lend (.box t x) ⟨F⟩ ρ M ψ = @bindL (some (ρ x).cells.toList) ⟨fun cs => @anew κ ψ M ⟨fun g => F (ptr g) (upd M g (some ⟨t, cs, cs.length⟩)) ψ⟩⟩ := by simp only [bindL_some]; rfl
theorem s_cells (cs : List Value) : (Value.agg cs.toArray).cells.toList = cs := rfl
theorem s_celli (k : IntKind) (x : Int) : (Value.int k x).cells.toList = [.int k x] := rfl
theorem s_cellb (x : Bool) : (Value.bool x).cells.toList = [.bool x] := rfl
theorem s_cellsl (p : Option Addr) (l c : Nat) : (Value.slice p l c).cells.toList = [.slice p l c] := rfl
theorem s_envOf (v : Value) (r : List Value) (k t : Nat) : envOf (v :: r) k t = if t = k then v else envOf r (k + 1) t := rfl
theorem s_buildS (t : TypeId) (n : Nat) (parts : Array (Nat × Operand)) : @raw P κ lend (.buildSlice t n parts) ⟨F⟩ ρ M ψ = @bindC (builtS P t n (parts.map fun (i, x) => (i, ρ x)).toList) ⟨fun e cs => @anew κ ψ M ⟨fun g => F (.slice (some ⟨g, 0, none⟩) n n) (upd M g (some ⟨e, cs, cs.length⟩)) ψ⟩⟩ := rfl
theorem s_makeS (t : TypeId) (l c : Operand) : @raw P κ lend (.makeSlice t l c) ⟨F⟩ ρ M ψ = @bindK (makeS P t (ρ l) (ρ c)) ⟨fun e cs n m => @anew κ ψ M ⟨fun g => F (.slice (some ⟨g, 0, none⟩) n m) (upd M g (some ⟨e, cs, cs.length⟩)) ψ⟩⟩ := rfl
theorem s_call (f : Operand) (args : Array Operand) (ts : Array TypeId) : @raw P κ true (.call ⟨.value f, args, ts⟩) ⟨F⟩ ρ M ψ = @callB P κ (ρ f) (args.map ρ) ⟨F⟩ M ψ := by simp [raw, vcRaw, callB]
theorem s_call0 (f : Operand) (args : Array Operand) (ts : Array TypeId) : @raw P κ false (.call ⟨.value f, args, ts⟩) ⟨F⟩ ρ M ψ = @callB0 P κ (ρ f) (args.map ρ) ⟨F⟩ M ψ := by simp [raw, vcRaw, callB0]
theorem s_append (s x : Operand) (t t' : TypeId) : @raw P κ lend (.call ⟨.builtin .append, #[s, x], #[t, t']⟩) ⟨F⟩ ρ M ψ = (t = t' ∧ @appendB P κ t (ρ s) (ρ x) ⟨F⟩ M ψ) := rfl
theorem s_clear (x : Operand) (t : TypeId) : @raw P κ lend (.call ⟨.builtin .clear, #[x], #[t]⟩) ⟨F⟩ ρ M ψ = @bindM (clearV P M t (ρ x)) ⟨fun M' => F (.tuple #[]) M' ψ⟩ := rfl
theorem s_load (t : TypeId) (x : Operand) : @raw P κ lend (.load t x) ⟨F⟩ ρ M ψ = @bindV (loadV P (all κ ψ M) t (ρ x)) ⟨F⟩ M ψ := rfl
theorem s_move (x : Operand) : @raw P κ lend (.move x) ⟨F⟩ ρ M ψ = @bindV (some (ρ x)) ⟨F⟩ M ψ := by simp [raw, vcRaw, val, pv, bindV]
theorem s_assign (x : Operand) : @raw P κ lend (.assign x) ⟨F⟩ ρ M ψ = @bindV (some (ρ x)) ⟨F⟩ M ψ := by simp [raw, vcRaw, val, pv, bindV]
theorem s_pick (c x y : Operand) : @raw P κ lend (.pick c x y) ⟨F⟩ ρ M ψ = @bindV ((match ρ c with | .bool t => some (if t = true then ρ x else ρ y) | _ => none)) ⟨F⟩ M ψ := rfl
theorem s_nilCheck (x : Operand) : @raw P κ lend (.nilCheck x) ⟨F⟩ ρ M ψ = @bindV ((match ρ x with | .pointer (some a) => some (.pointer (some a)) | _ => none)) ⟨F⟩ M ψ := rfl
theorem s_binOp (op : BinOp) (t : TypeId) (x y : Operand) (u : TypeId) : @raw P κ lend (.binOp op t x y u) ⟨F⟩ ρ M ψ = @bindV (binV op (ρ x) (ρ y)) ⟨F⟩ M ψ := rfl
theorem s_unOp (op : UnOp) (t : TypeId) (x : Operand) : @raw P κ lend (.unOp op t x) ⟨F⟩ ρ M ψ = @bindV (unV op (ρ x)) ⟨F⟩ M ψ := rfl
theorem s_convert (s d : TypeId) (x : Operand) : @raw P κ lend (.convert s d x) ⟨F⟩ ρ M ψ = @bindV (convV P s d (ρ x)) ⟨F⟩ M ψ := rfl
theorem s_tuple (t : Operand) (i : Nat) : @raw P κ lend (.extract t i) ⟨F⟩ ρ M ψ = @bindV ((match ρ t with | .tuple vs => vs[i]? | _ => none)) ⟨F⟩ M ψ := rfl
theorem s_field (T : TypeId) (x : Operand) (f : Nat) : @raw P κ lend (.field T x f) ⟨F⟩ ρ M ψ = @bindV (fieldV P T (ρ x) f) ⟨F⟩ M ψ := rfl
theorem s_index (T : TypeId) (x i : Operand) : @raw P κ lend (.index T x i) ⟨F⟩ ρ M ψ = @bindV (indexV P T (ρ x) (ρ i)) ⟨F⟩ M ψ := rfl
theorem s_build (t : TypeId) (parts : Array (Nat × Operand)) : @raw P κ lend (.build t parts) ⟨F⟩ ρ M ψ = @bindV ((P.built t (parts.map fun (i, x) => (i, ρ x)).toList).map .agg) ⟨F⟩ M ψ := rfl
theorem s_makeFunc (fn : Fn) (a b : Array Operand) : @raw P κ lend (.makeFunc fn a b) ⟨F⟩ ρ M ψ = @bindV (some (.func fn (a.map ρ) (b.map ρ))) ⟨F⟩ M ψ := by simp [raw, vcRaw, val, pv, bindV]
theorem s_fieldAddr (T : TypeId) (x : Operand) (f : Nat) : @raw P κ lend (.fieldAddr T x f) ⟨F⟩ ρ M ψ = @bindV (fieldAddrV P T (ρ x) f) ⟨F⟩ M ψ := rfl
theorem s_indexAddr (T : TypeId) (x i : Operand) : @raw P κ lend (.indexAddr T x i) ⟨F⟩ ρ M ψ = @bindV (indexAddrV P T (ρ x) (ρ i)) ⟨F⟩ M ψ := rfl
theorem s_slice (T : TypeId) (x : Operand) (lo hi : Option Operand) : @raw P κ lend (.slice T x lo hi none) ⟨F⟩ ρ M ψ = @bindV (sliceV P T (ρ x) (lo.map ρ) (hi.map ρ)) ⟨F⟩ M ψ := rfl

theorem s_len (x : Operand) (t : TypeId) : @raw P κ lend (.call ⟨.builtin .len, #[x], #[t]⟩) ⟨F⟩ ρ M ψ = @bindV (lenV P t (ρ x)) ⟨F⟩ M ψ := by simp [raw, vcRaw, val, pv, builtinV, bindV]
theorem s_max (x y : Operand) (t u : TypeId) : @raw P κ lend (.call ⟨.builtin .max, #[x, y], #[t, u]⟩) ⟨F⟩ ρ M ψ = @bindV (max2V (ρ x) (ρ y)) ⟨F⟩ M ψ := by simp [raw, vcRaw, val, pv, builtinV, bindV]
theorem s_cap (x : Operand) (t : TypeId) : @raw P κ lend (.call ⟨.builtin .cap, #[x], #[t]⟩) ⟨F⟩ ρ M ψ = @bindV (builtinV P .cap #[t] #[ρ x]) ⟨F⟩ M ψ := by simp [raw, vcRaw, val, pv, builtinV, bindV]
theorem s_int (op : BinOp) (k : IntKind) (a b : Int) : binV op (.int k a) (.int k b) = ints op k a b := by simp [binV]
theorem s_shl (k k' : IntKind) (h : k ≠ k') (a b : Int) : binV .shl (.int k a) (.int k' b) = if b < 0 then none else some (.int k (k.wrap (a * 2 ^ (min b.toNat k.bits)))) := by simp [binV, h]
theorem s_add (k : IntKind) (a b : Int) : ints .add k a b = some (.int k (k.wrap (a + b))) := rfl
theorem s_sub (k : IntKind) (a b : Int) : ints .sub k a b = some (.int k (k.wrap (a - b))) := rfl
theorem s_mul (k : IntKind) (a b : Int) : ints .mul k a b = some (.int k (k.wrap (a * b))) := rfl
theorem s_quo (k : IntKind) (a b : Int) : ints .quo k a b = if b = 0 then none else some (.int k (k.wrap (a.tdiv b))) := rfl
theorem s_rem (k : IntKind) (a b : Int) : ints .rem k a b = if b = 0 then none else some (.int k (a.tmod b)) := rfl
theorem s_xor (k : IntKind) (a b : Int) : ints .xor k a b = some (.int k (k.wrap ((BitVec.ofInt k.bits a ^^^ BitVec.ofInt k.bits b).toNat))) := rfl
theorem s_eql (k : IntKind) (a b : Int) : ints .eql k a b = some (.bool (decide (a = b))) := rfl
theorem s_neq (k : IntKind) (a b : Int) : ints .neq k a b = some (.bool (!decide (a = b))) := rfl
theorem s_lss (k : IntKind) (a b : Int) : ints .lss k a b = some (.bool (decide (a < b))) := rfl
theorem s_leq (k : IntKind) (a b : Int) : ints .leq k a b = some (.bool (decide (a ≤ b))) := rfl
theorem s_gtr (k : IntKind) (a b : Int) : ints .gtr k a b = some (.bool (decide (b < a))) := rfl
theorem s_geq (k : IntKind) (a b : Int) : ints .geq k a b = some (.bool (decide (b ≤ a))) := rfl
theorem s_not (b : Bool) : unV .not (.bool b) = some (.bool (!b)) := rfl
theorem s_neg (k : IntKind) (a : Int) : unV .neg (.int k a) = some (.int k (k.wrap (0 - a))) := rfl
theorem s_wrap64 (x : Int) (h : -9223372036854775808 ≤ x ∧ x ≤ 9223372036854775807) : IntKind.i64.wrap x = x := IntWalk.i64_in x h
theorem s_wrap8 (x : Int) (h : 0 ≤ x ∧ x ≤ 255) : IntKind.u8.wrap x = x := IntWalk.u8_in x h
theorem s_tmod (x y : Int) (h : 0 ≤ x) : x.tmod y = x % y := Int.tmod_eq_emod_of_nonneg h
theorem s_tdiv (x y : Int) (h : 0 ≤ x) : x.tdiv y = x / y := Int.tdiv_eq_ediv_of_nonneg h
theorem s_ite (p : Prop) [Decidable p] {α : Type} (a : Option α) (b : α) : ((if p then a else none) = some b) ↔ (p ∧ a = some b) := by split <;> simp_all
theorem s_itf (p : Prop) [Decidable p] {α : Type} (a : Option α) (b : α) : ((if p then none else a) = some b) ↔ (¬ p ∧ a = some b) := by split <;> simp_all
end
theorem s_upds {α : Type} (f : Nat → α) (k : Nat) (x : α) : upd f k x k = x := upd_same f k x
theorem s_ifp (p : Prop) [Decidable p] {α : Type} (a b : α) (h : p) : (if p then a else b) = a := if_pos h
theorem s_ifn (p : Prop) [Decidable p] {α : Type} (a b : α) (h : ¬ p) : (if p then a else b) = b := if_neg h
/-! ### Code -/
section
variable {P : Program} {κ X ψ M : Mem} {env : Env} {K : VP} {Q : Exit → VP}
theorem nth_zero (a : Oper) (l : List Oper) (F : Oper → Prop) : @nthG 0 ⟨a :: l, F⟩ = F a := rfl
theorem nth_succ (a : Oper) (l : List Oper) (i : Nat) (F : Oper → Prop) : @nthG (i + 1) ⟨a :: l, F⟩ = @nthG i ⟨l, F⟩ := by simp [nthG]
theorem s_pcons (l : List Oper) (i : Nat) (r : List (Nat × List Nat)) : @runP P κ ⟨l.toArray, K, (i, []) :: r⟩ env M ψ = @nthG i ⟨l, fun o => @runG P κ ⟨false, l.toArray, o, fun e M ψ => @runP P κ ⟨l.toArray, K, r⟩ e M ψ⟩ env M ψ⟩ := by
  simp only [runP, nthG, vcPlan, List.getElem?_toArray, runG]; cases l[i]? <;> simp
theorem s_pconsd (l : List Oper) (i d : Nat) (ds : List Nat) (r : List (Nat × List Nat)) : @runP P κ ⟨l.toArray, K, (i, d :: ds) :: r⟩ env M ψ = ((∀ x ∈ d :: ds, prepOk P l.toArray env x) ∧ @nthG i ⟨l, fun o => @runG P κ ⟨false, l.toArray, o, fun e M ψ => @runP P κ ⟨l.toArray, K, r⟩ e M ψ⟩ env M ψ⟩) := by
  simp only [runP, nthG, vcPlan, List.getElem?_toArray, runG]; cases l[i]? <;> simp
theorem s_vskip : @run P κ X ⟨.skip, Q⟩ env M ψ = after Q .normal env M ψ := rfl
theorem s_vexit (i : Nat) : @run P κ X ⟨.exit i, Q⟩ env M ψ = after Q (.exit i) env M ψ := rfl
theorem s_vret : @run P κ X ⟨.ret, Q⟩ env M ψ = after Q .ret env M ψ := rfl
theorem s_vseq (x y : Code) : @run P κ X ⟨.seq x y, Q⟩ env M ψ = @run P κ X ⟨x, thenQ (fun e M ψ => @run P κ X ⟨y, Q⟩ e M ψ) Q⟩ env M ψ := by simp only [run]; rw [vc]
theorem s_vblock (i : Nat) (x : Code) : @run P κ X ⟨.block i x, Q⟩ env M ψ = @run P κ X ⟨x, blockQ i Q⟩ env M ψ := by simp only [run]; rw [vc]
theorem s_vcond (c : Operand) (x y : Code) : @run P κ X ⟨.cond c x y, Q⟩ env M ψ = @bindB (ev env c) ⟨fun b => @ifB b ⟨fun b => match b with | true => @run P κ X ⟨x, Q⟩ env M ψ | false => @run P κ X ⟨y, Q⟩ env M ψ⟩⟩ := by
  simp only [run, bindB, ifB]; rw [vc]
  refine propext ⟨fun ⟨b, h1, h2, h3⟩ => ⟨b, h1, ?_⟩, fun ⟨b, h1, h2⟩ => ⟨b, h1, ?_⟩⟩
  · cases b
    · exact h3 rfl
    · exact h2 rfl
  · cases b
    · exact ⟨fun h => (by cases h), fun _ => h2⟩
    · exact ⟨fun _ => h2, fun h => (by cases h)⟩
theorem s_vregion (id : Nat) (l : List Oper) : @run P κ X ⟨.region id l.toArray false, Q⟩ env M ψ = @runO P κ ⟨l.toArray, fun e M ψ => after Q .normal e M ψ, l⟩ env M ψ := by simp only [run, runO]; rw [vc]; rfl
theorem s_then : after (thenQ K Q) .normal env M ψ = K env M ψ := rfl
theorem s_thenr : after (thenQ K Q) .ret env M ψ = after Q .ret env M ψ := rfl
theorem s_thene (i : Nat) : after (thenQ K Q) (.exit i) env M ψ = after Q (.exit i) env M ψ := rfl
theorem s_block (i : Nat) : after (blockQ i Q) .normal env M ψ = after Q .normal env M ψ := rfl
theorem s_blockr (i : Nat) : after (blockQ i Q) .ret env M ψ = after Q .ret env M ψ := rfl
theorem s_blocke (i : Nat) : after (blockQ i Q) (.exit i) env M ψ = after Q .normal env M ψ := by unfold after blockQ; simp
theorem s_blocko (i j : Nat) (h : j ≠ i) : after (blockQ i Q) (.exit j) env M ψ = after Q (.exit j) env M ψ := by unfold after blockQ; simp [h]
/-- The result, and what is to be shown of it. -/
def plain (v r : Value) (M ψ : Mem) : Prop := r = v ∧ M = none' ∧ ψ = none'
theorem s_ret (rs : List ResultVar) (R : Value → Mem → Mem → Prop) : after (retQ P κ X rs R) .ret env M ψ = @bindV (resV P (all κ ψ M) env rs) ⟨fun v M ψ => Up X ψ M (R v)⟩ M ψ := rfl
theorem s_retn (rs : List ResultVar) (R : Value → Mem → Mem → Prop) : after (retQ P κ X rs R) .normal env M ψ = @bindV (resV P (all κ ψ M) env rs) ⟨fun v M ψ => Up X ψ M (R v)⟩ M ψ := rfl
theorem s_res0 {A : Mem} : resV P A env [] = some (.tuple #[]) := rfl
theorem s_res1 {A : Mem} (r : ResultVar) : resV P A env [r] = resOne P A env r := rfl
def pairV (u v : Option Value) : Option Value := match u, v with
  | some u, some v => some (.tuple #[u, v])
  | _, _ => none
theorem s_pairV (u v : Value) : pairV (some u) (some v) = some (.tuple #[u, v]) := rfl
theorem s_res2 {A : Mem} (r s : ResultVar) : resV P A env [r, s] = pairV (resOne P A env r) (resOne P A env s) := by
  simp only [resV, pairV]
  cases resOne P A env r <;> cases resOne P A env s <;> rfl
theorem s_rest {A : Mem} (t : Tmp) : resOne P A env (.tmp t) = some (env t) := rfl
theorem s_resc {A : Mem} (p t : Nat) : resOne P A env (.cell p t) = loadV P A t (env p) := rfl
/-- A loop that counts up. -/
theorem vc_up {c : Code} (n i0 : Nat) (I : Nat → VP) (h0 : i0 ≤ n) (h1 : I i0 env M ψ)
    (h : ∀ i env' M' ψ', i ≤ n → (∀ t, (dsts c).contains t = false → env' t = env t) → Le ψ ψ' → Apart κ ψ' M' → I i env' M' ψ' →
      ∀ K : VP, (∀ env M ψ, i + 1 ≤ n → Up X ψ M (fun M ψ => I (i + 1) env M ψ) → K env M ψ) → @run P κ X ⟨c, thenQ K Q⟩ env' M' ψ') : @run P κ X ⟨.loop c, Q⟩ env M ψ := by
  refine vc_loop (fun m env M ψ => ∃ i, m + i = n ∧ I i env M ψ) (n - i0) ⟨i0, by omega, h1⟩ ?_
  rintro m env' M' ψ' hf hl ha ⟨i, hm, hI⟩ K hK
  refine h i env' M' ψ' (by omega) hf hl ha hI K fun env M ψ hi hu => hK (m - 1) env M ψ (by omega) ?_
  exact hu.mono fun M' ψ' _ h => ⟨i + 1, by omega, h⟩
theorem run_loop {c : Code} (I : Nat → VP) (m : Nat) (h0 : I m env M ψ)
    (h : ∀ m env' M' ψ', (∀ t, (dsts c).contains t = false → env' t = env t) → Le ψ ψ' → Apart κ ψ' M' → I m env' M' ψ' →
      ∀ K : VP, (∀ m' env M ψ, m' < m → Up X ψ M (fun M ψ => I m' env M ψ) → K env M ψ) → @run P κ X ⟨c, thenQ K Q⟩ env' M' ψ') : @run P κ X ⟨.loop c, Q⟩ env M ψ := vc_loop I m h0 h
theorem run_drawn {id : Nat} {ops : Array Oper} (plan : List (Nat × List Nat)) (hp : planOk ops plan = true) (h : @runP P κ ⟨ops, fun e M ψ => after Q .normal e M ψ, plan⟩ env M ψ) : @run P κ X ⟨.region id ops true, Q⟩ env M ψ := vc_drawn plan hp h
theorem run_of {f : FuncId} {fn : Func} {c : Code} {args : List Value} {R : Value → Mem → Mem → Prop} (hm : P.follows .mixedOrders = true) (hf : P.funcs[f]? = some fn) (hb : fn.body = some c)
    (hok : callOk P f = true) (hn : okN fn.ntmps c = true) (ha : args.length ≤ fn.ntmps) {rs : List ResultVar} (hr : fn.results.toList = rs)
    (h : @run P κ X ⟨c, retQ P κ X rs R⟩ (envOf args 0) X none') : CallsX P f args.toArray X κ R := callsX_of_vc hm hf hb hok hn ha (by rw [hr]; exact h)
theorem gives_of {f : FuncId} {fn : Func} {c : Code} {args : List Value} {v : Value} (hm : P.follows .mixedOrders = true) (hf : P.funcs[f]? = some fn) (hb : fn.body = some c)
    (hok : callOk P f = true) (hn : okN fn.ntmps c = true) (ha : args.length ≤ fn.ntmps) {rs : List ResultVar} (hr : fn.results.toList = rs)
    (h : @run P κ none' ⟨c, retQ P κ none' rs (plain v)⟩ (envOf args 0) none' none') : Gives P f args κ v := run_of hm hf hb hok hn ha hr h
theorem up_plain {v r : Value} (h : r = v) (hX : ∀ b, X b = none) (hψ : ψ = none') : Up X ψ M (plain v r) := Up.plain h hX hψ
/-- What a block holds (however long it may grow). -/
def Has (M : Mem) (p : Nat) (T : TypeId) (cs : List Value) : Prop := ∃ t, M p = some ⟨T, cs, t⟩
theorem all_none (κ : Mem) : all κ none' none' = κ := funext fun b => by simp [all, over, none']
theorem has_same (p t : Nat) (T T' : TypeId) (cs cs' : List Value) : Has (upd M p (some ⟨T, cs, t⟩)) p T' cs' = (T = T' ∧ cs = cs') := by
  refine propext ⟨fun ⟨t', h⟩ => ?_, fun ⟨h1, h2⟩ => ⟨t, by rw [upd_same, h1, h2]⟩⟩
  rw [upd_same] at h; injection h with h; injection h with h1 h2 h3; exact ⟨h1, h2⟩
theorem has_ne (p q : Nat) (e : Option Ent) (T : TypeId) (cs : List Value) (h : p ≠ q) : Has (upd M q e) p T cs = Has M p T cs := by unfold Has; rw [upd_ne h]
theorem fresh_ne {g p : Nat} {e : Ent} (h : M p = some e) (h' : M g = none) : g ≠ p := fun e => by rw [e, h] at h'; cases h'
end
/-! ### One type at a time -/
def cellAt (x : Option Ent) (o : Nat) : Option Value := x.bind fun e => e.cs[o]?
def segAt (x : Option Ent) (o n : Nat) : Option Value := x.bind fun e => if o + n ≤ e.cs.length then some (.agg ((e.cs.drop o).take n).toArray) else none
def putAt (x : Option Ent) (M : Mem) (b o n : Nat) (v : Value) : Option Mem :=
  x.bind fun e => if sizeV v = n ∧ o + n ≤ e.cs.length ∧ cellsOk v = true then some (upd M b (some ⟨e.ty, putv e.cs o v, e.tot⟩)) else none
theorem s_cellAt (T : TypeId) (cs : List Value) (tot o : Nat) : cellAt (some ⟨T, cs, tot⟩) o = cs[o]? := rfl
theorem s_segAt (T : TypeId) (cs : List Value) (tot o n : Nat) (h : o + n ≤ cs.length) : segAt (some ⟨T, cs, tot⟩) o n = some (.agg ((cs.drop o).take n).toArray) := by simp [segAt, h]
theorem s_segAll (T : TypeId) (cs : List Value) (tot n : Nat) (h : cs.length = n) : segAt (some ⟨T, cs, tot⟩) 0 n = some (.agg cs.toArray) := by subst h; simp [segAt]
theorem s_putInt (T : TypeId) (cs : List Value) (tot : Nat) (M : Mem) (b o : Nat) (k : IntKind) (x : Int) (h : o < cs.length) : putAt (some ⟨T, cs, tot⟩) M b o 1 (.int k x) = some (upd M b (some ⟨T, cs.set o (.int k x), tot⟩)) := by
  simp [putAt, sizeV, cellsOk, putv, Nat.succ_le_of_lt h]
theorem s_putBool (T : TypeId) (cs : List Value) (tot : Nat) (M : Mem) (b o : Nat) (x : Bool) (h : o < cs.length) : putAt (some ⟨T, cs, tot⟩) M b o 1 (.bool x) = some (upd M b (some ⟨T, cs.set o (.bool x), tot⟩)) := by
  simp [putAt, sizeV, cellsOk, putv, Nat.succ_le_of_lt h]
theorem s_putSlice (T : TypeId) (cs : List Value) (tot : Nat) (M : Mem) (b o : Nat) (p : Option Addr) (l c : Nat) (h : o < cs.length) : putAt (some ⟨T, cs, tot⟩) M b o 1 (.slice p l c) = some (upd M b (some ⟨T, cs.set o (.slice p l c), tot⟩)) := by
  simp [putAt, sizeV, cellsOk, putv, Nat.succ_le_of_lt h]
theorem s_putRow (T : TypeId) (cs : List Value) (tot : Nat) (M : Mem) (b o n : Nat) (vs : List Value) (hn : vs.length = n) (h : o + n ≤ cs.length) (h1 : vs.all (·.oneCell') = true) :
    putAt (some ⟨T, cs, tot⟩) M b o n (.agg vs.toArray) = some (upd M b (some ⟨T, put cs o vs, tot⟩)) := by
  simp only [putAt, sizeV, cellsOk, putv, List.size_toArray, Option.bind_some]
  rw [if_pos ⟨hn, h, by simpa using h1⟩]
section
variable {P : Program} {κ X ψ M A : Mem}
theorem loadV_cell {t : TypeId} {d : TypeDesc} (hu : P.underlying t = some d) (hd : d.isRow = false) (b o : Nat) : loadV P A t (.pointer (some ⟨b, o, none⟩)) = cellAt (A b) o := by
  cases h : A b <;> simp [loadV, cellAt, h, hu, hd]
theorem loadV_row {t : TypeId} {d : TypeDesc} {n : Nat} (hu : P.underlying t = some d) (hd : d.isRow = true) (hn : P.cellsOf t = n) (b o : Nat) : loadV P A t (.pointer (some ⟨b, o, none⟩)) = segAt (A b) o n := by
  cases h : A b <;> simp [loadV, segAt, h, hu, hd, hn]
theorem storeV_at {t : TypeId} {n : Nat} (hn : P.cellsOf t = n) (hi : (P.info? t).isSome = true) (b o : Nat) (v : Value) : storeV P M t (.pointer (some ⟨b, o, none⟩)) v = putAt (M b) M b o n v := by
  cases h : M b with
  | none => simp [storeV, putAt, h]
  | some e =>
    by_cases h' : sizeV v = n <;> simp [storeV, putAt, h, h', hn, hi]
theorem fieldAddrV_at {T : TypeId} {fs : Array Field} {i : Nat} {fl : Field} {k : Nat} (hu : P.underlying T = some (.struct fs)) (hf : fs[i]? = some fl) (hz : (P.cellsOf fl.type == 0) = false) (ho : fl.offset = k) (b o : Nat) :
    fieldAddrV P T (.pointer (some ⟨b, o, none⟩)) i = some (.pointer (some ⟨b, o + k, none⟩)) := by
  have hz' : P.cellsOf fl.type ≠ 0 := by simpa using hz
  simp [fieldAddrV, hu, hf, hz', ho]
theorem fieldV_cell {T : TypeId} {fs : Array Field} {i : Nat} {fl : Field} {k : Nat} {d : TypeDesc} (hu : P.underlying T = some (.struct fs)) (hf : fs[i]? = some fl) (hd : P.underlying fl.type = some d) (hr : d.isRow = false) (ho : fl.offset = k) (cs : Array Value) :
    fieldV P T (.agg cs) i = cs[k]? := by simp [fieldV, hu, hf, partV, hd, hr, ho]
theorem indexAddrV_arr {T e : TypeId} {n m : Nat} (hu : P.underlying T = some (.array n e)) (hi : (P.info? e).isSome = true) (hm : P.cellsOf e = m) (b o : Nat) (k : IntKind) (j : Int) (h : 0 ≤ j ∧ j < n) :
    indexAddrV P T (.pointer (some ⟨b, o, none⟩)) (.int k j) = some (.pointer (some ⟨b, o + j.toNat * m, none⟩)) := by
  simp [indexAddrV, hu, hi, hm, h]
theorem indexAddrV_sl {T e : TypeId} {m : Nat} (hu : P.underlying T = some (.slice e)) (hi : (P.info? e).isSome = true) (hm : P.cellsOf e = m) (b o l c : Nat) (k : IntKind) (j : Int) (h : 0 ≤ j ∧ j < l) :
    indexAddrV P T (.slice (some ⟨b, o, none⟩) l c) (.int k j) = some (.pointer (some ⟨b, o + j.toNat * m, none⟩)) := by
  simp [indexAddrV, hu, hi, hm, h]
theorem indexV_row {T e : TypeId} {n m : Nat} {d : TypeDesc} (hu : P.underlying T = some (.array n e)) (hd : P.underlying e = some d) (hr : d.isRow = true) (hm : P.cellsOf e = m) (cs : Array Value) (k : IntKind) (j : Int) (h : 0 ≤ j ∧ j < n) :
    indexV P T (.agg cs) (.int k j) = some (.agg (cs.extract (j.toNat * m) (j.toNat * m + m))) := by
  obtain ⟨i, hi⟩ := info_of_underlying hd
  simp [indexV, hu, hi, hm, h, partV, hd, hr]
theorem indexV_cell {T e : TypeId} {n m : Nat} {d : TypeDesc} (hu : P.underlying T = some (.array n e)) (hd : P.underlying e = some d) (hr : d.isRow = false) (hm : P.cellsOf e = m) (cs : Array Value) (k : IntKind) (j : Int) (h : 0 ≤ j ∧ j < n) :
    indexV P T (.agg cs) (.int k j) = cs[j.toNat * m]? := by
  obtain ⟨i, hi⟩ := info_of_underlying hd
  simp [indexV, hu, hi, hm, h, partV, hd, hr]
theorem lenV_sl {T e : TypeId} (hu : P.underlying T = some (.slice e)) (p : Option Addr) (l c : Nat) : lenV P T (.slice p l c) = some (.int .i64 l) := by simp [lenV, hu]
theorem convV_int {s d : TypeId} {ds : TypeDesc} {k : IntKind} (hs : P.underlying s = some ds) (hd : P.underlying d = some (.int k)) (k' : IntKind) (x : Int) : convV P s d (.int k' x) = some (.int k (k.wrap x)) := by simp [convV, hs, hd]
theorem s_all (b : Nat) : all κ ψ M b = (M b).or ((ψ b).or (κ b)) := rfl
theorem s_over (f g : Mem) (b : Nat) : over f g b = (f b).or (g b) := rfl
theorem s_none (b : Nat) : none' b = none := rfl
end
attribute [go_sem ↓] s_vskip s_vexit s_vret s_vseq s_vblock s_vcond s_vregion s_then s_thenr s_thene s_block s_blockr s_blocke s_ret s_retn s_res0 s_res1 s_res2 s_rest s_resc nth_zero nth_succ s_nil s_cons s_pnil s_pcons s_pconsd s_g s_gg s_store s_alloc s_box s_buildS s_makeS s_call s_call0 s_append s_clear s_load s_move s_assign s_pick s_nilCheck s_binOp s_unOp s_convert s_tuple s_field s_index s_build s_makeFunc
  s_fieldAddr s_indexAddr s_slice s_len s_max s_cap s_upd s_envOf
attribute [go_sem] bindV_some bindM_some bindB_bool bindC_some bindL_some bindK_some gate_tt gate_ff gate_tf gate_ft gate_n boolOf_b boolOf_u Int.lt_irrefl Nat.lt_irrefl Int.toNat_natCast_add_one and_self and_true true_and and_false false_and not_true_eq_false not_false_eq_true beq_tt beq_tf beq_ft beq_ff ft_eq tf_eq decide_true decide_false Bool.not_true Bool.not_false beq_self_eq_true s_evt s_evc s_evg s_evf s_setd s_setn
  s_int s_shl s_add s_sub s_mul s_quo s_rem s_xor s_eql s_neq s_lss s_leq s_gtr s_geq s_not s_neg
  s_all s_over s_none Option.none_or Option.some_or s_cells s_celli s_cellb s_cellsl ptr ifB_true ifB_false s_ifp s_ifn s_blocko s_pairV s_segAll s_cellAt s_putInt s_putBool s_putSlice s_putRow s_wrap64 s_wrap8
  Int.natCast_add Int.natCast_one Int.natCast_zero Option.map_some Option.map_none Nat.reduceEqDiff Nat.reduceAdd Nat.reduceMul Nat.zero_add Nat.add_zero Nat.mul_one Int.toNat_natCast Int.toNat_zero Int.toNat_one
end Go.Vc
