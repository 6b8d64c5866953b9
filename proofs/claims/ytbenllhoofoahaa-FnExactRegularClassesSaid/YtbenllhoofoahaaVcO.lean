/- Arguments that lead into memory: opened, and read again behind the call. -/
import Derived.Test.YtbenllhoofoahaaVcN
import Derived.Deep.Slices
import Derived.Carry
namespace Go.Vc
open Go.RowKit Go.WideShapes Go.ChangeShapes Go.Deep
set_option linter.unusedVariables false
set_option linter.unusedSimpArgs false
section
variable {H : Type} {enc : TypeId × Value → H} {P : Program} {w : World} {held : Bool}
theorem open_sl {t e : TypeId} {fuel : Nat} {v : Value} {x : DataW H × List MemPlace} (ht : P.underlying t = some (.slice e)) (hc : P.cellsOf e = 1) (h : DataW.trod enc P w 0 (fun _ => true) held fuel t [v] = some x) :
    ∃ n, Sl (seen w) n v fun i u => ∃ (m : Nat) (y : DataW H × List MemPlace), DataW.trod enc P w 0 (fun _ => true) held m e [u] = some y := by
  rcases open_slice1 ht hc h with ⟨h1, _⟩ | ⟨a, len, cap, m, n, V, D, Pl, h1, _, hl, hm, hmm, _, hi⟩
  · simp only [List.cons.injEq, and_true] at h1
    subst h1
    exact ⟨0, none, 0, rfl, Nat.le_refl _, by decide, fun i hi => by omega⟩
  · simp only [List.cons.injEq, and_true] at h1
    subst h1
    simp only [if_true] at hmm
    refine ⟨len, some a, cap, rfl, hl, hm, fun i hil => ?_⟩
    obtain ⟨q1, q2⟩ := hi i (by omega)
    obtain ⟨q0, _⟩ := hi 0 (by omega)
    have e0 : a.add 0 = a := by unfold Addr.add; rw [if_pos rfl]
    rw [e0] at q0
    obtain ⟨s0, _⟩ := seen_cell q0
    obtain ⟨_, T, cs, tt, g1, g2⟩ := seen_cell q1
    have hb : (a.add i).block = a.block := by unfold Addr.add; split <;> rfl
    have ho : (a.add i).off = a.off + i := by unfold Addr.add; split <;> simp_all
    rw [hb] at g1; rw [ho] at g2
    refine ⟨a.block, a.off, T, cs, tt, V i, ?_, g1, g2, n, _, q2⟩
    obtain ⟨b, o, s⟩ := a
    simp only at s0; subst s0; rfl
theorem open_row {t e : TypeId} {fuel : Nat} {v : Value} {x : DataW H × List MemPlace} (ht : P.underlying t = some (.slice e)) (he : P.underlying e = some (.int .i64)) (hc : P.cellsOf e = 1)
    (h : DataW.trod enc P w 0 (fun _ => true) held fuel t [v] = some x) : ∃ l, Row (seen w) v l := by
  obtain ⟨n, hs⟩ := open_sl ht hc h
  have hs' : Sl (seen w) n v fun i u => ∃ z : Int, u = i64 z := hs.mono (Le.refl _) fun i u _ ⟨m, y, hu⟩ => by
    obtain ⟨z, e1, _⟩ := DataW.trod_int he hu
    simp only [List.cons.injEq, and_true] at e1
    exact ⟨z, e1⟩
  obtain ⟨p, c, rfl, h1, h2, h3⟩ := hs'
  obtain ⟨f, hf⟩ : ∃ f : Nat → Int, ∀ i, i < n → ∃ (b o : Nat) (T : TypeId) (cs : List Value) (t : Nat), p = some ⟨b, o, none⟩ ∧ seen w b = some ⟨T, cs, t⟩ ∧ cs[o + i]? = some (i64 (f i)) :=
    choose_lt (p := fun i z => ∃ (b o : Nat) (T : TypeId) (cs : List Value) (t : Nat), p = some ⟨b, o, none⟩ ∧ seen w b = some ⟨T, cs, t⟩ ∧ cs[o + i]? = some (i64 z)) fun i hi => by
      obtain ⟨b, o, T, cs, t, u, q1, q2, q3, z, rfl⟩ := h3 i hi
      exact ⟨z, b, o, T, cs, t, q1, q2, q3⟩
  have hlen : ((List.range n).map f).length = n := by simp
  refine ⟨(List.range n).map f, p, c, by rw [hlen], by rw [hlen]; exact h1, h2, fun i hi => ?_⟩
  rw [hlen] at hi
  obtain ⟨b, o, T, cs, t, q1, q2, q3⟩ := hf i hi
  exact ⟨b, o, T, cs, t, _, q1, q2, q3, by show _ = i64 (((List.range n).map f).getD i 0); rw [List.getD_eq_getElem?_getD]; simp [hi]⟩
theorem open_tbl {t e k : TypeId} {v : Value} {d : DataW H} {p : List MemPlace} (ht : P.underlying t = some (.slice e)) (hce : P.cellsOf e = 1) (he : P.underlying e = some (.slice k)) (hk : P.underlying k = some (.int .i64)) (hck : P.cellsOf k = 1) (hv : v.cells.toList = [v])
    (h : DataW.Trod enc P w 0 (fun _ => true) held t v d p) : ∃ L, Tbl (seen w) v L := by
  obtain ⟨fuel, h⟩ := h
  rw [hv] at h
  obtain ⟨n, hs⟩ := open_sl ht hce h
  have hs' : Sl (seen w) n v fun i u => ∃ l, Row (seen w) u l := hs.mono (Le.refl _) fun i u _ ⟨m, y, hu⟩ => open_row he hk hck hu
  obtain ⟨q, c, rfl, h1, h2, h3⟩ := hs'
  obtain ⟨f, hf⟩ : ∃ f : Nat → List Int, ∀ i, i < n → ∃ (b o : Nat) (T : TypeId) (cs : List Value) (t : Nat) (u : Value), q = some ⟨b, o, none⟩ ∧ seen w b = some ⟨T, cs, t⟩ ∧ cs[o + i]? = some u ∧ Row (seen w) u (f i) :=
    choose_lt (p := fun i l => ∃ (b o : Nat) (T : TypeId) (cs : List Value) (t : Nat) (u : Value), q = some ⟨b, o, none⟩ ∧ seen w b = some ⟨T, cs, t⟩ ∧ cs[o + i]? = some u ∧ Row (seen w) u l) fun i hi => by
      obtain ⟨b, o, T, cs, t, u, q1, q2, q3, l, hl⟩ := h3 i hi
      exact ⟨l, b, o, T, cs, t, u, q1, q2, q3, hl⟩
  have hlen : ((List.range n).map f).length = n := by simp
  refine ⟨(List.range n).map f, q, c, by rw [hlen], by rw [hlen]; exact h1, h2, fun i hi => ?_⟩
  rw [hlen] at hi
  obtain ⟨b, o, T, cs, t, u, q1, q2, q3, q4⟩ := hf i hi
  exact ⟨b, o, T, cs, t, u, q1, q2, q3, by show Row (seen w) u (((List.range n).map f).getD i []); rw [List.getD_eq_getElem?_getD]; simpa [hi] using q4⟩
theorem slice_cells {t e : TypeId} {r : Reach} {b0 : Nat} {v : Value} (ht : P.underlying t = some (.slice e)) {d : DataW H} {p : List MemPlace} (h : DataW.Trod enc P w 0 (fun _ => true) held t v d p) (hv : Value.okWide P w r b0 t v) : v.cells.toList = [v] := by
  have : Cell.okWide P w r b0 t v := by simpa [Value.okWide, ht] using hv
  cases v <;> first | rfl | simp [Cell.okWide, Cell.ok, ht] at this
theorem trodAll_stays (hl : laidOutB P = true) {W W' : World} (hb : Below W.heap.size W W') {sp : Nat → Bool} : ∀ {ts : List TypeId} {vs : List Value} {ds : List (DataW H)} {ps : List MemPlace}, DataW.TrodAll enc P W 0 (fun _ => true) true ts vs ds ps →
    (ts.all fun t => P.readableRec t && decide (t < P.types.size)) = true → (∀ x ∈ ps, sp x.block = true) → (∀ x ∈ ps, x.block < W.heap.size) → DataW.TrodAll enc P W' 0 sp true ts vs ds ps
  | [], vs, ds, ps, h, _, _, _ => by
    obtain ⟨rfl, rfl, rfl⟩ := trodAll_nil h
    exact trodAll_mk0
  | t :: ts, vs, ds, ps, h, hr, hs, hlt => by
    obtain ⟨v, vs1, d, ds1, a, b, rfl, rfl, rfl, h1, h2⟩ := trodAll_cons h
    simp only [List.all_cons, Bool.and_eq_true, decide_eq_true_eq] at hr
    exact trodAll_cons_mk (WideElems.Trod_stays hl hr.1.1 hr.1.2 h1 (fun x hx => hb.same (hlt x (by simp [hx]))) fun x hx => hs x (by simp [hx]))
      (trodAll_stays hl hb h2 hr.2 (fun x hx => hs x (by simp [hx])) fun x hx => hlt x (by simp [hx]))
/-- What a law's row asks, where the call returns true and leaves all old blocks as they were. -/
theorem law_post {f : Func} {s : ChangeSpec} {W W' : World} {args : Array Value} {ds : List (DataW H)} {before : List MemPlace} (hl : laidOutB P = true) {tb : TypeId} (htb : P.underlying tb = some .bool) (hres : f.resultTypes = #[tb]) (hvars : s.vars = [])
    (hr : (f.params.toList.all fun t => P.readableRec t && decide (t < P.types.size)) = true) (hs : ∀ hs, s.fn H ds = hs → hs.results = [.lit (.bool true)] ∧ hs.args = ds ∧ hs.vars = [])
    (hW : DataW.Whole enc P f.params.toList s.vars false W args.toList ds [] before) (hb : Below W.heap.size W W') : s.post enc P f false true false false W args (.bool true) W' := by
  have hW0 := hW
  obtain ⟨p, q, hA, hV, rfl, hfz, hnd⟩ := hW
  rw [hvars] at hV
  obtain ⟨-, rfl⟩ := trodVars_none hV
  obtain ⟨e1, e2, e3⟩ := hs _ rfl
  have hlt : ∀ x ∈ p, x.block < W.heap.size := fun x hx => by simpa using hW0.lt x (by simp [hx])
  refine post_of_below (pa := p) (pv := []) hW0 (fun b sp hd => ?_) (fun sp hsp => ?_) (fun sp hsp => ?_) rfl hb
  · rw [List.append_nil, e1, hres]
    exact trodAll_cons_mk (shut_bool htb _) trodAll_mk0
  · rw [List.append_nil, e2]
    exact trodAll_stays hl hb hA hr (fun x hx => hsp x (by simp [hx])) hlt
  · rw [List.append_nil, e3, hvars]; rfl
end
end Go.Vc
