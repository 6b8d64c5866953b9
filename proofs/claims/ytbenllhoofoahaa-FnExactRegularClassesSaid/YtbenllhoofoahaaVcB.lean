/- The pure operations: what they come to, and that the machine does so in every world. -/
import Derived.Test.YtbenllhoofoahaaVcA
namespace Go.Vc
open Go.RowKit
set_option linter.unusedVariables false
set_option linter.unusedSimpArgs false

def ints (op : BinOp) (k : IntKind) (a b : Int) : Option Value :=
  match op with
  | .add => some (.int k (k.wrap (a + b)))
  | .sub => some (.int k (k.wrap (a - b)))
  | .mul => some (.int k (k.wrap (a * b)))
  | .quo => if b = 0 then none else some (.int k (k.wrap (a.tdiv b)))
  | .rem => if b = 0 then none else some (.int k (a.tmod b))
  | .and => some (.int k (k.wrap ((BitVec.ofInt k.bits a &&& BitVec.ofInt k.bits b).toNat)))
  | .or => some (.int k (k.wrap ((BitVec.ofInt k.bits a ||| BitVec.ofInt k.bits b).toNat)))
  | .xor => some (.int k (k.wrap ((BitVec.ofInt k.bits a ^^^ BitVec.ofInt k.bits b).toNat)))
  | .eql => some (.bool (a == b))
  | .neq => some (.bool (a != b))
  | .lss => some (.bool (decide (a < b)))
  | .leq => some (.bool (decide (a ≤ b)))
  | .gtr => some (.bool (decide (b < a)))
  | .geq => some (.bool (decide (b ≤ a)))
  | _ => none

def binV (op : BinOp) : Value → Value → Option Value
  | .int k a, .int k' b => if k = k' then ints op k a b else if op = .shl then (if b < 0 then none else some (.int k (k.wrap (a * 2 ^ (min b.toNat k.bits))))) else none
  | .string a, .string b => match op with
    | .eql => some (.bool (a.toList == b.toList))
    | .neq => some (.bool (!(a.toList == b.toList)))
    | _ => none
  | _, _ => none

def unV (op : UnOp) : Value → Option Value
  | .bool b => match op with | .not => some (.bool (!b)) | _ => none
  | .int k a => match op with | .neg => some (.int k (k.wrap (0 - a))) | _ => none
  | _ => none

variable (P : Program)

def partV (t : TypeId) (cs : Array Value) (off : Nat) : Option Value :=
  match P.underlying t with
  | none => none
  | some d => if d.isRow then some (.agg (cs.extract off (off + P.cellsOf t))) else cs[off]?

def fieldV (T : TypeId) (x : Value) (f : Nat) : Option Value :=
  match P.underlying T, x with
  | some (.struct fs), .agg cs => match fs[f]? with
    | some fl => partV P fl.type cs fl.offset
    | none => none
  | _, _ => none

def indexV (T : TypeId) (x i : Value) : Option Value :=
  match P.underlying T, x, i with
  | some (.array n e), .agg cs, .int _ j => if 0 ≤ j ∧ j < n then (if (P.info? e).isSome then partV P e cs (j.toNat * P.cellsOf e) else none) else none
  | some .string, .string s, .int _ j => if 0 ≤ j then (match s[j.toNat]? with | some b => some (.int .u8 b.toNat) | none => none) else none
  | _, _, _ => none

def fieldAddrV (T : TypeId) (x : Value) (f : Nat) : Option Value :=
  match P.underlying T, x with
  | some (.struct fs), .pointer (some ⟨b, o, none⟩) => match fs[f]? with
    | some fl => if P.cellsOf fl.type = 0 then none else some (.pointer (some ⟨b, o + fl.offset, none⟩))
    | none => none
  | _, _ => none

def indexAddrV (T : TypeId) (x i : Value) : Option Value :=
  match P.underlying T, x, i with
  | some (.array n e), .pointer (some ⟨b, o, none⟩), .int _ j => if 0 ≤ j ∧ j < n then (if (P.info? e).isSome then some (.pointer (some ⟨b, o + j.toNat * P.cellsOf e, none⟩)) else none) else none
  | some (.slice e), .slice (some ⟨b, o, none⟩) n _, .int _ j => if 0 ≤ j ∧ j < n then (if (P.info? e).isSome then some (.pointer (some ⟨b, o + j.toNat * P.cellsOf e, none⟩)) else none) else none
  | _, _, _ => none

def convV (s d : TypeId) (x : Value) : Option Value :=
  match P.underlying s, P.underlying d, x with
  | some _, some (.int k), .int _ n => some (.int k (k.wrap n))
  | _, _, _ => none

def lenV (t : TypeId) (x : Value) : Option Value :=
  match P.underlying t, x with
  | some (.slice _), .slice _ n _ => some (.int .i64 n)
  | some .string, .string s => some (.int .i64 s.size)
  | some (.array n _), _ => some (.int .i64 n)
  | _, _ => none

def hiOf (n : Nat) : Option Value → Option Int
  | some (.int _ h) => some h
  | none => some (n : Int)
  | _ => none
def loOf : Option Value → Option Int
  | some (.int _ l) => some l
  | none => some 0
  | _ => none
/-- s[lo:hi] of a slice; the pointer to an array, cut. -/
def sliceV (T : TypeId) (x : Value) (lo hi : Option Value) : Option Value :=
  match P.underlying T, x with
  | some (.slice e), .slice a n c =>
    match hiOf n hi, loOf lo with
    | some h, some l => if 0 ≤ h ∧ h ≤ c ∧ 0 ≤ l ∧ l ≤ h then (if (P.info? e).isSome then
        some (.slice (if c = l.toNat then a else a.map (·.add (l.toNat * P.cellsOf e))) (h.toNat - l.toNat) (c - l.toNat)) else none) else none
    | _, _ => none
  | some (.array m e), .pointer (some ⟨b, o, none⟩) =>
    match hiOf m hi, loOf lo with
    | some h, some l => if 0 ≤ h ∧ h ≤ m ∧ 0 ≤ l ∧ l ≤ h then (if (P.info? e).isSome then
        some (.slice (some (if m = l.toNat then ⟨b, o, none⟩ else ⟨b, o + l.toNat * P.cellsOf e, none⟩)) (h.toNat - l.toNat) (m - l.toNat)) else none) else none
    | _, _ => none
  | _, _ => none

def max2V : Value → Value → Option Value
  | .int k x, .int _ y => some (.int k (if y > x then y else x))
  | _, _ => none

def builtinV (b : Builtin) (ts : Array TypeId) (args : Array Value) : Option Value :=
  match b with
  | .len => match ts[0]?, args[0]? with
    | some t, some x => lenV P t x
    | _, _ => none
  | .cap => match ts[0]?, args[0]? with
    | some t, some (Value.slice _ _ c) => match P.underlying t with
      | some (.slice _) => some (.int .i64 c)
      | _ => none
    | _, _ => none
  | .max => match args.toList with
    | [x, y] => max2V x y
    | _ => none
  | _ => none

/-- The value of an operation that does not look at the world. -/
def pv (ρ : Operand → Value) : Op → Option Value
  | .move x => some (ρ x)
  | .assign x => some (ρ x)
  | .pick c a b => match ρ c with | .bool t => some (if t = true then ρ a else ρ b) | _ => none
  | .nilCheck x => match ρ x with | .pointer (some a) => some (.pointer (some a)) | _ => none
  | .binOp op _ x y _ => binV op (ρ x) (ρ y)
  | .unOp op _ x => unV op (ρ x)
  | .convert s d x => convV P s d (ρ x)
  | .extract t i => match ρ t with | .tuple vs => vs[i]? | _ => none
  | .field T x f => fieldV P T (ρ x) f
  | .index T x i => indexV P T (ρ x) (ρ i)
  | .build t parts => (P.built t (parts.map fun (i, x) => (i, ρ x)).toList).map .agg
  | .makeFunc fn first cap => some (.func fn (first.map ρ) (cap.map ρ))
  | .fieldAddr T x f => fieldAddrV P T (ρ x) f
  | .indexAddr T x i => indexAddrV P T (ρ x) (ρ i)
  | .slice T x lo hi none => sliceV P T (ρ x) (lo.map ρ) (hi.map ρ)
  | .call { callee := .builtin b, args, argTypes } => builtinV P b argTypes (args.map ρ)
  | _ => none

variable {P}

theorem info_of_underlying {t : TypeId} {d : TypeDesc} (h : P.underlying t = some d) : ∃ i, P.info? t = some i := by
  unfold Program.underlying at h
  cases hi : P.info? t with
  | none => simp [hi] at h
  | some i => exact ⟨i, rfl⟩
theorem run_sizeOf {t : TypeId} {i : TypeInfo} (h : P.info? t = some i) (w : World) : (sizeOf t).run P w = .ok (P.cellsOf t) w := by
  simp [sizeOf, typeInfo, h, Program.cellsOf]
theorem run_isAgg {t : TypeId} {d : TypeDesc} (h : P.underlying t = some d) (w : World) : (isAgg t).run P w = .ok d.isRow w := by
  unfold isAgg
  rw [Sem.run_bind, run_underlying h w]
  cases d <;> simp
theorem run_part {t : TypeId} {cs : Array Value} {off : Nat} {v : Value} (h : partV P t cs off = some v) (w : World) : (part t cs off).run P w = .ok v w := by
  unfold partV at h
  cases hu : P.underlying t with
  | none => simp [hu] at h
  | some d =>
    simp only [hu] at h
    obtain ⟨i, hi⟩ := info_of_underlying hu
    unfold part
    rw [Sem.run_bind, run_isAgg hu w]
    by_cases hd : d.isRow = true
    · simp only [hd, if_true, Option.some.injEq] at h
      subst h
      simp [hd, run_sizeOf hi]
    · simp only [hd, Bool.false_eq_true, if_false] at h
      simp [hd, h]
theorem run_field {T : TypeId} {x v : Value} {f : Nat} (h : fieldV P T x f = some v) (w : World) : (Instr.field T x f).run P w = .ok v w := by
  unfold fieldV at h
  split at h
  · rename_i fs cs hu
    split at h
    · rename_i fl hf
      simp [Instr.field, run_underlying hu, hf, asAgg, run_part h]
    · cases h
  · cases h
theorem run_index {T : TypeId} {x i v : Value} (h : indexV P T x i = some v) (w : World) : (Instr.index T x i).run P w = .ok v w := by
  unfold indexV at h
  split at h
  · rename_i n e cs k j hu
    split at h
    · rename_i hj
      split at h
      · rename_i he
        obtain ⟨ie, hie⟩ := Option.isSome_iff_exists.1 he
        simp [Instr.index, asIntOf, run_underlying hu, hj, run_sizeOf hie, run_part h]
      · cases h
    · cases h
  · rename_i s k j hu
    split at h
    · rename_i hj
      split at h
      · rename_i b hb
        simp only [Option.some.injEq] at h
        subst h
        simp [Instr.index, asIntOf, run_underlying hu, hj, hb]
      · cases h
    · cases h
  · cases h
theorem run_fieldAddr {T : TypeId} {x v : Value} {f : Nat} (h : fieldAddrV P T x f = some v) (w : World) : (Instr.fieldAt T x f).run P w = .ok v w := by
  unfold fieldAddrV at h
  split at h
  · rename_i fs b o hu
    split at h
    · rename_i fl hf
      split at h
      · cases h
      · rename_i hz
        simp only [Option.some.injEq] at h
        subst h
        cases hi : P.info? fl.type with
        | none => simp [Program.cellsOf, hi] at hz
        | some i => simp [Instr.fieldAt, run_underlying hu, hf, Instr.sureAddr, fieldPlace, run_sizeOf hi, hz, Addr.add_lit]
    · cases h
  · cases h
theorem run_indexAddr {T : TypeId} {x i v : Value} (h : indexAddrV P T x i = some v) (w : World) : (Instr.indexAt T x i).run P w = .ok v w := by
  unfold indexAddrV at h
  split at h
  · rename_i n e b o k j hu
    split at h
    · rename_i hj
      split at h
      · rename_i he
        obtain ⟨ie, hie⟩ := Option.isSome_iff_exists.1 he
        simp only [Option.some.injEq] at h
        subst h
        simp [Instr.indexAt, asIntOf, run_underlying hu, Instr.sureAddr, hj, run_sizeOf hie, Addr.add_lit]
      · cases h
    · cases h
  · rename_i e b o n c k j hu
    split at h
    · rename_i hj
      split at h
      · rename_i he
        obtain ⟨ie, hie⟩ := Option.isSome_iff_exists.1 he
        simp only [Option.some.injEq] at h
        subst h
        simp [Instr.indexAt, asIntOf, run_underlying hu, hj, run_sizeOf hie, Addr.add_lit]
      · cases h
    · cases h
  · cases h
theorem run_conv {s d : TypeId} {x v : Value} (h : convV P s d x = some v) (w : World) : (convert s d x).run P w = .ok v w := by
  unfold convV at h
  split at h
  · rename_i ds k kx n hs hd
    simp only [Option.some.injEq] at h
    subst h
    simp [convert, run_underlying hs, run_underlying hd, Conv.intToInt]
  · cases h
theorem run_bin {op : BinOp} {t : TypeId} {x y : Operand} {a b v : Value} (h : binV op a b = some v) (w : World) :
    (do eqGuard op t x y a b; binOp op t a b : Sem Value).run P w = .ok v w := by
  unfold binV at h
  split at h
  · rename_i k m k' n
    simp only [eqGuard_at_int]
    by_cases hk : k = k'
    · subst hk
      rw [if_pos rfl] at h
      cases op <;> simp only [ints] at h <;> (try (simp at h; done)) <;>
        first
          | (simp only [Option.some.injEq] at h; subst h; simp [binOp, Op.intArith, Op.intCmp, Op.intBits]; done)
          | (split at h
             · cases h
             · rename_i hz
               simp only [Option.some.injEq] at h
               subst h
               simp [binOp, Op.intDiv, hz])
    · rw [if_neg hk] at h
      split at h
      · rename_i ho
        subst ho
        split at h
        · cases h
        · rename_i hn
          simp only [Option.some.injEq] at h
          subst h
          simp [binOp, Op.shift, hn]
      · cases h
  · rename_i s1 s2
    simp only [eqGuard_at_string]
    cases op <;> simp only at h <;> (try (simp at h; done)) <;> simp only [Option.some.injEq] at h <;> subst h <;> simp [binOp, Op.stringOp]
  · cases h
theorem run_un {op : UnOp} {x v : Value} (h : unV op x = some v) (w : World) : (Op.unary op x).run P w = .ok v w := by
  unfold unV at h
  split at h
  · cases op <;> simp only at h <;> (try (simp at h; done)) <;> simp only [Option.some.injEq] at h <;> subst h <;> simp [Op.unary]
  · cases op <;> simp only at h <;> (try (simp at h; done)) <;> simp only [Option.some.injEq] at h <;> subst h <;> simp [Op.unary, Op.intArith]
  · cases h
theorem run_len {t : TypeId} {x v : Value} {ty : TypeId} (h : lenV P t x = some v) (w : World) : (Builtin.len_ #[t] ty #[x]).run P w = .ok v w := by
  unfold lenV at h
  split at h
  · rename_i e a n c hu
    simp only [Option.some.injEq] at h; subst h
    simp [Builtin.len_, run_underlying hu, goInt]
  · rename_i s hu
    simp only [Option.some.injEq] at h; subst h
    simp [Builtin.len_, run_underlying hu, goInt]
  · rename_i n e y hu
    simp only [Option.some.injEq] at h; subst h
    simp [Builtin.len_, run_underlying hu, goInt]
  · cases h
end Go.Vc
