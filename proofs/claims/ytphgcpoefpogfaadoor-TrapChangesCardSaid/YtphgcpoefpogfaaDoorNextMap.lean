/- trap.Next: the map of actions and the block of the result, as one fact of a world. -/
import Derived.Test.YtphgcpoefpogfaaDoorProg
import Derived.WalkKit
import Derived.BigCall
import Derived.LoopTactic
import Derived.KernelRfl
import Derived.Lib.Hide
import Derived.Laws.Rows
import Derived.Maps.OwnSet
import Derived.Maps.OwnOps
import Derived.Maps.StringElems
namespace Go.Proofs.YtphgcpoefpogfaaDoor.Nx
open Go.RowKit

abbrev keyLaw : Maps.Keyed Tryd.prog 3 := Maps.int_keyed Tryd.underlying3
theorem zeroS (w : World) : (zeroValue 9).run Tryd.prog w = .ok (.string ⟨#[]⟩) w := by kernel_rfl
theorem isKey (i : Int) : WideAt.IsKeyLit (.int .i64 i) := trivial

/-- The map in block b of w reads as m (keys in an int's range), and has at most n entries. -/
def MapIs (w : World) (b n : Nat) (m : Int → Option ByteArray) : Prop :=
  ∃ D : DataW Unit, w.ownsMap Tryd.prog 3 (plainElem Tryd.prog 9) b n D ∧ Maps.IsMap D ∧
    (∀ i, Maps.has D (.int .i64 i) = (m i).isSome) ∧ (∀ i s, m i = some s → D.atKey (.int .i64 i) (.lit (.string [])) = .lit (.string s.data.toList))
def upd (m : Int → Option ByteArray) (i : Int) (s : ByteArray) : Int → Option ByteArray := fun j => if j = i then some s else m j

theorem MapIs.step {w w1 : World} {b n : Nat} {m : Int → Option ByteArray} (h : MapIs w b n m) (hb : w1.heap[b]? = w.heap[b]?) : MapIs w1 b n m := by
  obtain ⟨D, ⟨es, clock, h1, F, h2, h3⟩, hD⟩ := h
  exact ⟨D, ⟨es, clock, hb.trans h1, F, h2, h3⟩, hD⟩
theorem MapIs.made (w : World) : MapIs (w.alloc (.map #[] 0)) w.heap.size 0 (fun _ => none) :=
  ⟨.map [], World.ownsMap_made w _ _ _, Maps.isMap_empty, fun _ => rfl, fun _ _ h => by cases h⟩

/-- The state of the walk: the result's block, the map's block behind it, and what was there stays. -/
def St (w W : World) (n : Nat) (m : Int → Option ByteArray) (cs : Array Value) : Prop :=
  W.heap[w.heap.size]? = some (.cells cs 30 (0, 0)) ∧ MapIs W (w.heap.size + 1) n m ∧ Below w.heap.size w W ∧ w.heap.size + 2 ≤ W.heap.size
theorem St.step {w W W1 : World} {n : Nat} {m : Int → Option ByteArray} {cs : Array Value} (h : St w W n m cs) (hb : ∀ k, k < w.heap.size + 2 → W1.heap[k]? = W.heap[k]?) (hB : Below w.heap.size w W1) (hs : W.heap.size ≤ W1.heap.size) : St w W1 n m cs :=
  ⟨(hb _ (by omega)).trans h.1, h.2.1.step (hb _ (by omega)), hB, Nat.le_trans h.2.2.2 hs⟩
theorem St.below {w W W1 : World} {n : Nat} {m : Int → Option ByteArray} {cs : Array Value} (h : St w W n m cs) (hb : Below W.heap.size W W1) : St w W1 n m cs :=
  h.step (fun k hk => hb.block k (by have := h.2.2.2; omega)) (h.2.2.1.trans (hb.mono h.2.2.1.size)) hb.size
theorem St.set {w W : World} {n : Nat} {m : Int → Option ByteArray} {cs : Array Value} (h : St w W n m cs) {p : Addr} (hp : w.heap.size + 2 ≤ p.block) (u : Value) : St w (W.setCell p u) n m cs :=
  h.step (fun k hk => Below.heap_setCell _ _ _ _ (by omega)) (h.2.2.1.setCell (by omega) u) (by simp [World.setCell])
theorem St.grown {w W W1 : World} {n : Nat} {m : Int → Option ByteArray} {cs : Array Value} {row : Option Nat} (h : St w W n m cs) (hg : W.grownBy W1 row) (hr : ∀ k, row = some k → w.heap.size + 2 ≤ k) (hB : Below w.heap.size w W1) (hs : W.heap.size ≤ W1.heap.size) : St w W1 n m cs :=
  h.step (fun k hk => hg.block k (by have := h.2.2.2; omega) (fun e => by have := hr k e.symm; omega)) hB hs
theorem St.mono {w W : World} {n n' : Nat} {m : Int → Option ByteArray} {cs : Array Value} (h : St w W n m cs) (hn : n ≤ n') : St w W n' m cs := by
  obtain ⟨h1, ⟨D, ho, hD⟩, h2⟩ := h
  exact ⟨h1, ⟨D, ho.mono hn, hD⟩, h2⟩
theorem St.start (w : World) (cs : Array Value) : St w ((w.alloc (.cells cs 30)).alloc (.map #[] 0)) 0 (fun _ => none) cs := by
  have hs : (w.alloc (.cells cs 30)).heap.size = w.heap.size + 1 := by unfold World.alloc; simp
  refine ⟨?_, ?_, ?_, ?_⟩
  · rw [(MapKept.heap_alloc _ _).2 _ (by rw [hs]; omega)]; exact (MapKept.heap_alloc _ _).1
  · have := MapIs.made (w.alloc (.cells cs 30))
    rw [hs] at this
    exact this
  · exact ((Below.refl w.heap.size w).alloc (Nat.le_refl _) _).alloc (by rw [hs]; omega) _
  · unfold World.alloc; simp

theorem res3 {fn : Func} {p u v : Tmp} {ty : TypeId} (h : fn.results = #[.cell p ty, .tmp u, .tmp v]) (tmps : Array Value) (P : Program) (w : World) (g : Nat) (x : Value)
    (hp : tmps.getD p undef = .pointer (some ⟨g, 0, none⟩)) (hl : (loadVar ty ⟨g, 0, none⟩).run P w = .ok x w) :
    (results fn tmps).run P w = .ok (.tuple #[x, tmps.getD u undef, tmps.getD v undef]) w := by
  have hp' : tmps[p]?.getD undef = .pointer (some ⟨g, 0, none⟩) := by simpa using hp
  simp [results, h, hp', asAddr, hl, Result.andThen]
theorem size2 : (Tryd.prog.info? 30).map (·.size) = some 2 := by kernel_rfl
section
variable {w W : World} {ops : Array Oper} {rest : List Oper} {o : Oper} {a : Act} {Q : Exit → Act → World → Prop} {n : Nat} {mp : Int → Option ByteArray} {cs : Array Value}
theorem put_step (S : St w W n mp cs) (hn : n < 1000000000) (m x v : Operand) (i : Int) (s : ByteArray) (hg : o.guard = none) (hop : o.op = Op.mapUpdate 53 m x v)
    (hm : a.eval m = .map (some (w.heap.size + 1))) (hx : a.eval x = .int .i64 i) (hv : a.eval v = .string s) (hi : (Lit.int .i64 i).wf = true) (hs : s.size ≤ maxLen)
    (hK : ∀ w', St w w' (n + 1) (upd mp i s) cs → wpList Tryd.prog ops Q rest (a.put o.dst undef) w') : wpList Tryd.prog ops Q (o :: rest) a W := by
  obtain ⟨h1, ⟨D, ho, hD, hh, ha⟩, hB, hS⟩ := S
  refine wpList_mapUpdate_own W hg m x v 53 hop 3 9 keyLaw Tryd.underlying53 (plainElem Tryd.prog 9) (w.heap.size + 1) n D hm ho (by unfold maxLen; omega) (.int .i64 i) (.string s) (.int .i64 i) hx hv
    (Maps.keyOf_int_mk Tryd.underlying3 hi) (.lit (.string s.data.toList)) [] (plainElem_string Tryd.underlying9 hs) ?_
  intro w' ho' hg'
  have hs' : W.heap.size ≤ w'.heap.size := hg'.size
  refine hK w' ⟨(hg'.block _ (by omega) (by simp)).trans h1, ⟨D.put (.int .i64 i) (.lit (.string s.data.toList)), ho', hD.put _ _, ?_, ?_⟩, ?_, by omega⟩
  · intro j
    unfold upd
    by_cases hj : j = i
    · subst hj; rw [if_pos rfl, Maps.has_put_same hD (isKey _)]; rfl
    · rw [if_neg hj, Maps.has_put_other (by intro e; injection e with _ e; exact hj e)]; exact hh j
  · intro j t ht
    unfold upd at ht
    by_cases hj : j = i
    · subst hj; rw [if_pos rfl] at ht; obtain rfl := Option.some.inj ht; exact Maps.atKey_put_same hD (isKey _) _ _
    · rw [if_neg hj] at ht; rw [Maps.atKey_put_other (by intro e; injection e with _ e; exact hj e)]; exact ha j t ht
  · exact hB.grown hg' (by omega) (fun k hk => by cases hk; omega)
theorem look_step (S : St w W n mp cs) (m x : Operand) (i : Int) (hg : o.guard = none) (hop : o.op = Op.lookup 53 m x true)
    (hm : a.eval m = .map (some (w.heap.size + 1))) (hx : a.eval x = .int .i64 i) (hi : (Lit.int .i64 i).wf = true)
    (hK : ∀ s : ByteArray, wpList Tryd.prog ops Q rest (a.put o.dst (.tuple #[.string s, .bool (mp i).isSome])) W) : wpList Tryd.prog ops Q (o :: rest) a W := by
  obtain ⟨h1, ⟨D, ho, hD, hh, ha⟩, hB, hS⟩ := S
  refine wpList_lookup_own_ok W hg m x 53 hop 3 9 keyLaw Tryd.underlying53 (plainElem Tryd.prog 9) (zeroS _) (.lit (.string [])) [] (plainElem_string Tryd.underlying9 (by decide)) (w.heap.size + 1) n D hm ho (.int .i64 i) (.int .i64 i) hx
    (Maps.keyOf_int_mk Tryd.underlying3 hi) ?_
  intro v ps hv
  obtain ⟨s, rfl, _, _⟩ := plainElem_string_inv Tryd.underlying9 hv
  rw [hh i]
  exact hK s
theorem look_run (S : St w W n mp cs) (i : Int) (hi : (Lit.int .i64 i).wf = true) (s : ByteArray) (hs : mp i = some s) : (Instr.lookup 53 (.map (some (w.heap.size + 1))) (.int .i64 i) false).run Tryd.prog W = .ok (.string s) W := by
  obtain ⟨h1, ⟨D, ho, hD, hh, ha⟩, hB, hS⟩ := S
  obtain ⟨v, ps, hr, hv⟩ := ho.lookup keyLaw Tryd.underlying53 (zeroS _) (plainElem_string Tryd.underlying9 (by decide)) (Maps.keyOf_int_mk Tryd.underlying3 hi)
  obtain ⟨s', rfl, he, _⟩ := plainElem_string_inv Tryd.underlying9 hv
  have h2 := ha i s hs
  have h3 := (congrArg Prod.fst he).symm.trans h2
  replace h3 := Lit.string.inj (DataW.lit.inj h3)
  have : s' = s := by
    cases s; cases s'
    exact congrArg _ (Array.toList_inj.1 h3)
  rw [this] at hr
  exact hr
end
end Go.Proofs.YtphgcpoefpogfaaDoor.Nx
