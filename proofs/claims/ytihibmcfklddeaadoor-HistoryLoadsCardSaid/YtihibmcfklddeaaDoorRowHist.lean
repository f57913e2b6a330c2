/- A history as a law's argument; what the listed variables give; the row's wrap with the world's shape. -/
import Derived.Test.YtihibmcfklddeaaDoorGl
import Derived.Test.YtihibmcfklddeaaDoorWMore
import Derived.Test.YtihibmcfklddeaaDoorRows
import Derived.SliceStrings
import Derived.HandedShaped
import Derived.ProofKit
import Derived.ChangeOld
import Derived.Lib.LaidU8
import Derived.Lib.LaidTab
import Derived.Shelf.Vars
namespace Go.Proofs.YtihibmcfklddeaaDoor.PS
set_option linter.unusedVariables false
set_option linter.unusedSimpArgs false
open Go.RowKit Go.Proofs.YtihibmcfklddeaaDoorW.PrintWords Go.Proofs.YtihibmcfklddeaaDoorW.PrintLast Go.Proofs.YtihibmcfklddeaaDoorW.PrintMore
open Go.ChangeShapes Go.WideShapes
theorem cells_hist : Tryd.prog.cellsOf 24 = 2 := by kernel_rfl
theorem cells_string : Tryd.prog.cellsOf 9 = 1 := by kernel_rfl
theorem cells_int : Tryd.prog.cellsOf 3 = 1 := by kernel_rfl
theorem cells_lines : Tryd.prog.cellsOf 22 = 1 := by kernel_rfl
theorem bytes_string : Tryd.prog.bytesOf 9 = 16 := by kernel_rfl
theorem weights_strs {H : Type} {P : Program} {e : TypeId} : ∀ {ss : List ByteArray} {s : ByteArray}, s ∈ ss → s.size ∈ DataW.weightsAll P e (strs (H := H) ss)
  | x :: r, s, h => by
    simp only [strs, List.map_cons, DataW.weightsAll, DataW.weights, List.mem_append]
    rcases List.mem_cons.1 h with rfl | h
    · exact .inl (List.mem_singleton.2 rfl)
    · exact .inr (weights_strs h)
set_option maxRecDepth 100000 in
theorem open_hist {H : Type} {enc : TypeId × Value → H} {W : World} {base b : Nat} {sp : Nat → Bool} {held : Bool} {v : Value} {d : DataW H} {ps : List MemPlace} (hval : Value.okWide Tryd.prog W .any base 24 v) (h : DataW.Trod enc Tryd.prog W b sp held 24 v d ps) :
    ∃ (n : Int) (A : Option Addr) (l : List ByteArray) (c : Nat), v = .agg #[.int .i64 n, .slice A l.length c] ∧ l.length ≤ c ∧ Kd.C Kd.string W A l.length l ∧ (Lit.int .i64 n).wf = true ∧ ((∀ m ∈ d.weights Tryd.prog 24, m ≤ reachBytes) → l.length ≤ reachBytes ∧ ∀ s ∈ l, s.size ≤ reachBytes) := by
  obtain ⟨cs, rfl, hsz⟩ := okWide_struct Tryd.underlying24 hval
  rw [cells_hist] at hsz
  obtain ⟨fuel, hf⟩ := h
  obtain ⟨y0, y1, n, hd, hlen, h0, h1⟩ := trod_struct2 Tryd.underlying24 hf
  dsimp only at h0 h1
  rw [cells_int] at h0
  rw [cells_lines] at h1
  obtain ⟨z, e0, hy0, hw⟩ := DataW.trod_int Tryd.underlying3 h0
  subst hy0
  have hc : Value.cells (.agg cs) = cs := rfl
  rw [hc] at e0 h1
  have hcs0 : cs[0]? = some (.int .i64 z) := by
    have := congrArg (·[0]?) e0
    simpa using this
  rcases open_strings Tryd.underlying22 Tryd.underlying9 cells_string h1 with ⟨e1, _⟩ | ⟨a, len, cap, ss, e1, _, hl, hm, hz, hy1, hcell, _⟩
  · have hcs1 : cs[1]? = some (.slice none 0 0) := by
      have := congrArg (·[0]?) e1
      simpa using this
    have hcs : cs = #[.int .i64 z, .slice none 0 0] := by
      apply Array.ext_getElem?
      intro i
      match i with
      | 0 => rw [hcs0]; rfl
      | 1 => rw [hcs1]; rfl
      | i + 2 => rw [Array.getElem?_eq_none (by omega), Array.getElem?_eq_none (by simp)]
    subst hcs
    exact ⟨z, none, [], 0, rfl, Nat.le_refl _, Kd.C_nil _ _, hw, fun _ => ⟨Nat.zero_le _, fun _ h => by cases h⟩⟩
  · have hcs1 : cs[1]? = some (.slice (some a) len cap) := by
      have := congrArg (·[0]?) e1
      simpa using this
    have hcs : cs = #[.int .i64 z, .slice (some a) len cap] := by
      apply Array.ext_getElem?
      intro i
      match i with
      | 0 => rw [hcs0]; rfl
      | 1 => rw [hcs1]; rfl
      | i + 2 => rw [Array.getElem?_eq_none (by omega), Array.getElem?_eq_none (by simp)]
    subst hcs
    have hlz : len ≤ ss.length := by rw [hz]; split <;> omega
    have hlen' : (ss.take len).length = len := by rw [List.length_take]; omega
    refine ⟨z, some a, ss.take len, cap, by rw [hlen'], by omega, ⟨rfl, ?_, ?_⟩, hw, ?_⟩
    · have := hm; unfold maxLen at this; omega
    · intro _
      refine ⟨a, rfl, fun j p hp => ?_⟩
      have hj : j < len := by
        have := (List.getElem?_eq_some_iff.1 hp).1
        omega
      have hp' : p = ss.getD j ByteArray.empty := by
        rw [List.getElem?_take_of_lt hj] at hp
        simp [hp]
      subst hp'
      refine ⟨[.string (ss.getD j ByteArray.empty)], rfl, rfl, fun i u hu => ?_⟩
      match i, hu with
      | 0, hu => obtain rfl := Option.some.inj hu; simpa [Kd.string, Kd.scalar] using hcell j (by omega)
      | i + 1, hu => simp at hu
    · intro hwt
      subst hy1
      obtain ⟨rfl, _⟩ := Prod.mk.inj hd
      have hmem : ∀ m ∈ ((strs (H := H) (ss.take len)).length + (strs (H := H) (ss.drop len)).length) * Tryd.prog.bytesOf 9 :: (DataW.weightsAll Tryd.prog 9 (strs (H := H) (ss.take len)) ++ DataW.weightsAll Tryd.prog 9 (strs (H := H) (ss.drop len))), m ≤ reachBytes := by
        intro m hm'
        refine hwt m ?_
        simp only [DataW.weights, Tryd.underlying24, List.map_cons, List.map_nil, DataW.weightsEach, Tryd.underlying22, List.append_nil, List.nil_append]
        exact hm'
      refine ⟨?_, fun s hs => hmem _ (List.mem_cons_of_mem _ (List.mem_append_left _ (weights_strs hs)))⟩
      have h1 := hmem _ List.mem_cons_self
      rw [bytes_string, show (strs (H := H) (ss.take len)).length = len from by simp [strs]; omega] at h1
      rw [hlen']
      omega

set_option maxRecDepth 100000 in
/-- An error variable that reads as data holds an interface value. -/
theorem err_of_reads {W : World} {name : String} {g : Nat} {d : DataW Unit} (hg : Tryd.prog.globalNamed name = some g) (hty : (Tryd.prog.globals[g]?).map (·.type) = some 57) (h : Lib.VarReads Tryd.prog W name d) :
    ∃ ev, W.cell? ⟨g, 0, none⟩ = some ev ∧ (ev = .nilIface ∨ ∃ te pe, ev = .iface te pe) := by
  obtain ⟨g', t, cs, fuel, p, hg', ht, hv, hr⟩ := h
  obtain rfl := Option.some.inj (hg.symm.trans hg')
  obtain rfl := Option.some.inj (hty.symm.trans ht)
  have hcell := World.var?_cell hg hv 0
  cases fuel with
  | zero => simp [DataW.trod] at hr
  | succ fuel =>
    unfold DataW.trod at hr
    rw [Tryd.underlying57] at hr
    have key : ∃ ev, cs.toList = [ev] ∧ (ev = .nilIface ∨ ∃ te pe, ev = .iface te pe) := by
      revert hr
      generalize cs.toList = l
      intro hr
      split at hr <;> simp_all
    obtain ⟨ev, h1, h2⟩ := key
    refine ⟨ev, ?_, h2⟩
    rw [hcell]
    have : cs.toList[0]? = some ev := by rw [h1]; rfl
    simpa using this
set_option maxRecDepth 100000 in
theorem gl_of {W : World} {laid : List (String × DataW Unit)} (hpow : ("internal/strconv.uint64pow10", (Rows.laid_internal_strconv_uint64pow10 : DataW Unit)) ∈ laid) (hsyn : ("strconv.ErrSyntax", (Rows.laid_strconv_ErrSyntax : DataW Unit)) ∈ laid) (hran : ("strconv.ErrRange", (Rows.laid_strconv_ErrRange : DataW Unit)) ∈ laid)
    (h : laidMet Tryd.prog laid W) (hsh : W.ShapedOpen Tryd.prog) : Gl W := by
  refine ⟨?_, ?_, ?_, ?_⟩
  · exact Go.Proofs.cell_of_shapedOpen_int (zero := #[.int .i64 0]) (t := 3) hsh (of_decide_eq_true (by kernel_rfl)) (by kernel_rfl) rfl (by kernel_rfl) (by kernel_rfl) Tryd.underlying3
  · obtain ⟨g', t', cs, fuel, p, hg', ht', hvar, hd⟩ := Lib.laidMet.reads h hpow
    obtain rfl := Option.some.inj ((show Tryd.prog.globalNamed "internal/strconv.uint64pow10" = some 3 by kernel_rfl).symm.trans hg')
    obtain rfl := Option.some.inj ((show (Tryd.prog.globals[3]?).map (·.type) = some 105 by kernel_rfl).symm.trans ht')
    unfold Lib.TabIs
    rw [hvar, ← Lib.cells_of_tab Tryd.underlying105 Tryd.underlying88 (by kernel_rfl) (by kernel_rfl) (zs := Lib.pow10Tab) hd]
  · exact err_of_reads (by kernel_rfl) (by kernel_rfl) (Lib.laidMet.reads h hsyn)
  · exact err_of_reads (by kernel_rfl) (by kernel_rfl) (Lib.laidMet.reads h hran)

theorem wf_hi {n : Int} (h : (Lit.int .i64 n).wf = true) : n ≤ 9223372036854775807 := by
  simp [Lit.wf, IntKind.max, IntKind.min, IntKind.signed, IntKind.bits] at h
  omega
theorem mem_of_all {l : List Nat} (h : l.all (· ≤ reachBytes) = true) {l' : List Nat} (hs : ∀ n ∈ l', n ∈ l) : ∀ n ∈ l', n ≤ reachBytes := fun n hn => by simpa using List.all_eq_true.1 h n (hs n hn)

theorem cells_u8 : Tryd.prog.cellsOf 5 = 1 := by kernel_rfl
set_option maxRecDepth 100000 in
theorem open_bytesC {H : Type} {enc : TypeId × Value → H} {W : World} {base b : Nat} {sp : Nat → Bool} {held : Bool} {v : Value} {d : DataW H} {ps : List MemPlace} (hval : Value.okWide Tryd.prog W .any base 47 v) (h : DataW.Trod enc Tryd.prog W b sp held 47 v d ps) :
    ∃ (A : Option Addr) (l : List Int) (c : Nat), v = .slice A l.length c ∧ l.length ≤ c ∧ Kd.C (Kd.int .u8) W A l.length l ∧ ∀ n ∈ l, (Lit.int .u8 n).wf = true := by
  obtain ⟨a, len, cap, rfl⟩ := okWide_slice Tryd.underlying47 hval
  obtain ⟨fuel, hf⟩ := h
  rcases open_ints Tryd.underlying47 Tryd.underlying5 cells_u8 hf with ⟨hcs, _⟩ | ⟨x, l, c, zs, hcs, _, hl, hm, hz, _, hcell, hwz⟩
  · simp [Value.cells] at hcs
    obtain ⟨rfl, rfl, rfl⟩ := hcs
    exact ⟨none, [], 0, rfl, Nat.le_refl _, Kd.C_nil _ _, fun _ h => by cases h⟩
  · simp [Value.cells] at hcs
    obtain ⟨rfl, rfl, rfl⟩ := hcs
    have hlz : len ≤ zs.length := by rw [hz]; split <;> omega
    have hlen : (zs.take len).length = len := by rw [List.length_take]; omega
    refine ⟨some x, zs.take len, cap, by rw [hlen], by omega, ⟨rfl, ?_, ?_⟩, fun n hn => hwz n (List.mem_of_mem_take hn)⟩
    · have := hm; unfold maxLen at this; omega
    · intro _
      refine ⟨x, rfl, fun j p hp => ?_⟩
      have hj : j < len := by
        have := (List.getElem?_eq_some_iff.1 hp).1
        omega
      have hp' : p = zs.getD j 0 := by
        rw [List.getElem?_take_of_lt hj] at hp
        simp [hp]
      subst hp'
      refine ⟨[.int .u8 (zs.getD j 0)], rfl, rfl, fun i u hu => ?_⟩
      match i, hu with
      | 0, hu => obtain rfl := Option.some.inj hu; simpa [Kd.int, Kd.scalar] using hcell j (by omega)
      | i + 1, hu => simp at hu

/-- The wrap over listed variables, the world's shape kept. -/
theorem handed_shaped {H : Type} {enc : TypeId × Value → H} {a : Assume} {C : Checked} {os : Os} {f : FuncId} {fn : Func} {s : ChangeSpec} {conds : List PathCond} {apart fresh handsOn again : Bool} {X : World → Array Value → Prop}
    (hX : ∀ (w w' : World) (args : Array Value), w.heap = w'.heap → X w args → X w' args)
    (own : ownKnob C.prog.godebug = none) (started : os.Started) (noInit : C.prog.inits.idxOf? f = none) (hfn : C.prog.funcs[f]? = some fn)
    (witness : ∃ (w : World) (tape : Tape) (i : Input), w.os = os ∧ (w.forCall tape i).Shaped C.prog ∧ i.vars = [] ∧ Input.okWide C.prog (w.forCall tape i) .any w.heap.size f i ∧
      ((s.pre enc C.prog fn conds apart (w.forCall tape i).memory i.args ∧ X (w.forCall tape i).memory i.args) ∧ sizedMet enc C.prog fn (OpenSpec.ofChange s) apart (w.forCall tape i).memory i.args) ∧ a.holds C.prog (lone (Frame.enter C.prog f i.args .normal) [] (w.forCall tape i)))
    (contract : ∀ (W : World) (base : Nat) (args : Array Value) (ds gs : List (DataW H)) (before : List MemPlace),
      (∀ (j : Nat) t v, fn.params[j]? = some t → args[j]? = some v → Value.okWide C.prog W .any base t v) →
      DataW.Whole enc C.prog fn.params.toList s.vars apart W args.toList ds gs before →
      (DataW.weightsEach C.prog (fn.params.toList ++ s.plain.varTypes C.prog) (ds ++ gs)).all (· ≤ reachBytes) = true → X W args → W.ShapedOpen C.prog →
      Calls C.prog f args W fun e W' => ∃ v, e = .returned v ∧ s.post enc C.prog fn apart fresh handsOn again W args v W') :
    ReturnsInHanded a C os f .any (fun w args => (s.pre enc C.prog fn conds apart w args ∧ X w args) ∧ sizedMet enc C.prog fn (OpenSpec.ofChange s) apart w args) (s.post enc C.prog fn apart fresh handsOn again) := by
  refine returnsInHanded_of_calls own started noInit witness ?_
  intro w tape i _ hsh _ hok hpre _
  obtain ⟨_, _, _, fn', hfn', _, _, _, _, hval⟩ := hok
  have e : fn' = fn := Option.some.inj (hfn'.symm.trans hfn)
  subst e
  obtain ⟨⟨⟨ds, gs, before, hw, _⟩, hx⟩, hz⟩ := hpre
  have hw' := DataW.Whole.of_heap (w' := w.forCall tape i) (by rfl) hw
  refine (contract (w.forCall tape i) w.heap.size i.args ds gs before hval hw' (hz.weights hw) (hX _ _ _ (by rfl) hx) hsh).mono fun e W' ⟨v, he, hp⟩ => ?_
  subst he
  exact ChangeSpec.post_blind hp
end Go.Proofs.YtihibmcfklddeaaDoor.PS
