/- Slicing, builtins, all pure operations together; loads and stores. -/
import Derived.Test.YtbenllhoofoahaaVcB
namespace Go.Vc
open Go.RowKit
set_option linter.unusedVariables false
set_option linter.unusedSimpArgs false
variable {P : Program}

theorem run_bounds {isS : Bool} {n c : Nat} {lo hi : Option Value} {l h : Int} (hh : hiOf n hi = some h) (hl : loOf lo = some l)
    (c1 : 0 ≤ h) (c2 : h ≤ c) (c3 : 0 ≤ l) (c4 : l ≤ h) (w : World) : (Instr.sliceBounds isS n c lo hi none).run P w = .ok (l.toNat, h.toNat, c) w := by
  have c5 : l ≤ (h.toNat : Int) := by omega
  cases hi with
  | none =>
    simp only [hiOf, Option.some.injEq] at hh
    subst hh
    cases lo with
    | none => simp only [loOf, Option.some.injEq] at hl; subst hl; simp [Instr.sliceBounds]
    | some v =>
      cases v <;> simp only [loOf] at hl <;> try (cases hl; done)
      simp only [Option.some.injEq] at hl; subst hl
      simp [Instr.sliceBounds, Instr.sliceBound, asIntOf, c3, c4]
  | some u =>
    cases u <;> simp only [hiOf] at hh <;> try (cases hh; done)
    simp only [Option.some.injEq] at hh; subst hh
    cases lo with
    | none => simp only [loOf, Option.some.injEq] at hl; subst hl; simp [Instr.sliceBounds, Instr.sliceBound, asIntOf, c1, c2]
    | some v =>
      cases v <;> simp only [loOf] at hl <;> try (cases hl; done)
      simp only [Option.some.injEq] at hl; subst hl
      simp [Instr.sliceBounds, Instr.sliceBound, asIntOf, c1, c2, c3, c4, c5, -Int.ofNat_toNat]
theorem run_slice {T : TypeId} {x v : Value} {lo hi : Option Value} (h : sliceV P T x lo hi = some v) (w : World) : (Instr.sliceAt T x lo hi none).run P w = .ok v w := by
  unfold sliceV at h
  split at h
  · rename_i e a n c hu
    split at h
    · rename_i hb lb hh hl
      split at h
      · rename_i hc
        obtain ⟨c1, c2, c3, c4⟩ := hc
        split at h
        · rename_i he
          obtain ⟨ie, hie⟩ := Option.isSome_iff_exists.1 he
          simp only [Option.some.injEq] at h
          have hbound := run_bounds (P := P) (isS := true) (n := n) (c := c) (lo := lo) (hi := hi) hh hl c1 c2 c3 c4 w
          subst h
          simp [Instr.sliceAt, Instr.slice, run_underlying hu, hbound, run_sizeOf hie]
        · cases h
      · cases h
    · cases h
  · rename_i m e b o hu
    split at h
    · rename_i hb lb hh hl
      split at h
      · rename_i hc
        obtain ⟨c1, c2, c3, c4⟩ := hc
        split at h
        · rename_i he
          obtain ⟨ie, hie⟩ := Option.isSome_iff_exists.1 he
          simp only [Option.some.injEq] at h
          have hbound := run_bounds (P := P) (isS := false) (n := m) (c := m) (lo := lo) (hi := hi) hh hl c1 c2 c3 c4 w
          subst h
          simp [Instr.sliceAt, Instr.sureAddr, run_underlying hu, hbound, run_sizeOf hie, Addr.add_lit]
        · cases h
      · cases h
    · cases h
  · cases h

theorem run_builtin {b : Builtin} {ts : Array TypeId} {args : Array Value} {v : Value} {ty : TypeId} {cs : Array Bool} (h : builtinV P b ts args = some v) (w : World) :
    (builtin b ts ty cs args).run P w = .ok (.value v) w := by
  unfold builtinV at h
  cases b <;> simp only at h <;> try (cases h; done)
  · -- cap
    split at h
    · rename_i t a n c ht hx
      split at h
      · rename_i e hu
        simp only [Option.some.injEq] at h; subst h
        simp [builtin, Builtin.cap_, ht, hx, run_underlying hu, goInt]
      · cases h
    · cases h
  · -- len
    split at h
    · rename_i t x ht hx
      have := run_len (ty := ty) h w
      have e : (Builtin.len_ ts ty args).run P w = .ok v w := by
        unfold Builtin.len_ at this ⊢
        simpa [ht, hx] using this
      simp [builtin, e]
    · cases h
  · -- max
    split at h
    · rename_i x y hl
      have e : (Builtin.max_ ts ty args).run P w = .ok v w := by
        unfold max2V at h
        split at h
        · rename_i k a k' b
          simp only [Option.some.injEq] at h; subst h
          simp [Builtin.max_, hl, Builtin.max2]
        · cases h
      simp [builtin, e]
    · cases h

/-- A pure operation comes to its value, in every world. -/
theorem run_pv {ρ : Operand → Value} {o : Oper} {v : Value} (h : pv P ρ o.op = some v) (w : World) : (execOp ρ o).run P w = .ok (.value v) w := by
  obtain ⟨dst, op, ty, pos, after, guard⟩ := o
  cases op <;> simp only [pv] at h <;> try (cases h; done)
  case move x => simp only [Option.some.injEq] at h; subst h; simp [execOp]
  case assign x => simp only [Option.some.injEq] at h; subst h; simp [execOp]
  case pick c a b =>
    split at h
    · rename_i t hc
      simp only [Option.some.injEq] at h; subst h
      cases t <;> simp [execOp, hc, asBool]
    · cases h
  case build t parts =>
    simp only [Option.map_eq_some_iff] at h
    obtain ⟨cells, hc, rfl⟩ := h
    simp [execOp, run_build w t _ cells hc]
  case nilCheck x =>
    split at h
    · rename_i a hx
      simp only [Option.some.injEq] at h; subst h
      simp [execOp, hx]
    · cases h
  case binOp op xT x y yT => simp only [execOp]; rw [Sem.run_bind, run_bin h w]; rfl
  case unOp op xT x => simp [execOp, run_un h w]
  case convert s d x => simp [execOp, run_conv h w]
  case makeFunc fn first cap => simp only [Option.some.injEq] at h; subst h; simp [execOp, Instr.makeFunc]
  case slice T x lo hi mx =>
    cases mx with
    | some m => cases h
    | none => simp [execOp, run_slice h w]
  case fieldAddr T x f => simp [execOp, run_fieldAddr h w]
  case field T x f => simp [execOp, run_field h w]
  case indexAddr T x i => simp [execOp, run_indexAddr h w]
  case index T x i => simp [execOp, run_index h w]
  case extract t i =>
    split at h
    · rename_i vs ht
      simp [execOp, Instr.extract, ht, h]
    · cases h
  case call c =>
    obtain ⟨callee, args, argTypes⟩ := c
    cases callee <;> simp only at h <;> try (cases h; done)
    rename_i b
    simp [execOp, resolve, invoke, run_builtin h w]

/-! ### Loads -/
/-- What is read at an address. -/
def loadV (P : Program) (A : Mem) (t : TypeId) (p : Value) : Option Value :=
  match p with
  | .pointer (some ⟨b, o, none⟩) => match A b with
    | none => none
    | some e => match P.underlying t with
      | none => none
      | some d => if d.isRow then (if o + P.cellsOf t ≤ e.cs.length then some (.agg ((e.cs.drop o).take (P.cellsOf t)).toArray) else none) else e.cs[o]?
  | _ => none

theorem run_load {A : Mem} {t : TypeId} {p v : Value} (h : loadV P A t p = some v) {w : World} (hA : ∀ b e, A b = some e → Knows w b e) : (Instr.loadAt t p).run P w = .ok v w := by
  unfold loadV at h
  split at h
  · rename_i b o
    split at h
    · cases h
    · rename_i e he
      have hk := hA b e he
      split at h
      · cases h
      · rename_i d hu
        split at h
        · rename_i hd
          split at h
          · rename_i hl
            simp only [Option.some.injEq] at h
            subst h
            obtain ⟨i, hi⟩ := info_of_underlying hu
            refine run_loadAt_mid w b o t _ d (fun j v hv => ?_) hu hd ?_
            · have hj : j < P.cellsOf t := by
                have := (List.getElem?_eq_some_iff.1 hv).1
                simp at this; omega
              rw [List.getElem?_take, if_pos hj, List.getElem?_drop] at hv
              exact hk.cell hv
            · simp [hi, Program.cellsOf] at hl ⊢
              omega
          · cases h
        · rename_i hd
          have hc := hk.cell h
          have ha : (isAgg t).run P w = .ok false w := by rw [run_isAgg hu w]; simp [hd]
          simp [Instr.loadAt, Instr.sureAddr, loadVar, ha, load, Sem.run, hc]
  · cases h

/-! ### Stores -/
def putv (cs : List Value) (o : Nat) : Value → List Value
  | .agg xs => put cs o xs.toList
  | v => cs.set o v
def cellsOk : Value → Bool
  | .agg xs => xs.toList.all (·.oneCell')
  | .tuple _ => false
  | _ => true
def sizeV : Value → Nat
  | .agg xs => xs.size
  | _ => 1
def storeV (P : Program) (M : Mem) (t : TypeId) (p v : Value) : Option Mem :=
  match p with
  | .pointer (some ⟨b, o, none⟩) => match M b with
    | none => none
    | some e => if sizeV v = P.cellsOf t ∧ o + sizeV v ≤ e.cs.length ∧ cellsOk v = true ∧ (P.info? t).isSome = true then
        some (upd M b (some { e with cs := putv e.cs o v })) else none
  | _ => none

theorem store_one {w0 w : World} {κ X ψ M : Mem} {t : TypeId} {b o : Nat} {e : Ent} {v : Value} {i : TypeInfo} (hv : v.cells = #[v]) (h1 : v.oneCell' = true)
    (hs : Sat w0 κ X ψ M w) (he : M b = some e) (hi : P.info? t = some i) (c1 : 1 = P.cellsOf t) (c2 : o + 1 ≤ e.cs.length) :
    ∃ w', (Instr.storeAt t (.pointer (some ⟨b, o, none⟩)) v).run P w = .ok () w' ∧ Sat w0 κ X ψ (upd M b (some { e with cs := e.cs.set o v })) w' := by
  have hown := (hs.own b e he).2
  have hlt : o < e.cs.length := by omega
  have hcell := hown.knows.cell (List.getElem?_eq_getElem hlt)
  have hfz := hown.free o
  have hst := hs.store (vs := [v]) he (by simpa using c2)
  rw [put_one _ _ _ hlt] at hst
  refine ⟨_, ?_, hst⟩
  have hsto : (Go.store ⟨b, o, none⟩ v).run P w = .ok () (w.setCell ⟨b, o, none⟩ v) := by
    rw [Go.run_store P w _ v .plain h1]; simp [stored, hcell, hfz]
  simp [Instr.storeAt, Instr.sureAddr, storeVar, run_sizeOf hi, hv, ← c1, storeCells, hsto, World.setCells, Addr.add_lit]

theorem run_store {w0 w : World} {κ X ψ M M' : Mem} {t : TypeId} {p v : Value} (h : storeV P M t p v = some M') (hs : Sat w0 κ X ψ M w) :
    ∃ w', (Instr.storeAt t p v).run P w = .ok () w' ∧ Sat w0 κ X ψ M' w' := by
  unfold storeV at h
  split at h
  · rename_i b o
    split at h
    · cases h
    · rename_i e he
      split at h
      · rename_i hc
        obtain ⟨c1, c2, c3, c4⟩ := hc
        simp only [Option.some.injEq] at h
        subst h
        obtain ⟨i, hi⟩ := Option.isSome_iff_exists.1 c4
        have hown := (hs.own b e he).2
        have hkn := hown.knows
        have hsz : P.cellsOf t = i.size := by simp [Program.cellsOf, hi]
        cases v
        case agg xs =>
          simp only [sizeV] at c1 c2
          have hth : w.there b o xs.size := fun j hj => by
            have hlt : o + j < e.cs.length := by omega
            refine ⟨?_, hown.free _⟩
            rw [hkn.cell (List.getElem?_eq_getElem hlt)]; rfl
          refine ⟨_, run_storeAt_mid w b o t xs hth (by simp [hi]; omega) (by simpa [cellsOk] using c3), ?_⟩
          exact hs.store he (by simpa using c2)
        case tuple vs => cases c3
        all_goals exact store_one rfl rfl hs he hi c1 c2
      · cases h
  · cases h
end Go.Vc
