/- A list of jobs and a list of integers as a law's argument; what the listed variables give. -/
import Derived.Test.YthafbimhmfjcoaaDoorPVx0
import Derived.Test.YthafbimhmfjcoaaDoorRows
import Derived.Deep.SlicePairs
import Derived.HandedShaped
import Derived.ProofKit
import Derived.ChangeOld
import Derived.Lib.LaidU8
import Derived.Lib.LaidTab
import Derived.Shelf.Vars
namespace Go.Proofs.YthafbimhmfjcoaaDoor.PS
set_option linter.unusedVariables false
set_option linter.unusedSimpArgs false
open Go.RowKit Go.Proofs.YthafbimhmfjcoaaDoorW.PrintWords Go.Proofs.YthafbimhmfjcoaaDoorW.PrintLast Go.Proofs.YthafbimhmfjcoaaDoorW.PrintMore Go.Proofs.YthafbimhmfjcoaaDoor.PV
open Go.ChangeShapes Go.WideShapes
instance : Inhabited S35 := ⟨z35⟩
theorem heap_job : Kd.Heap k35 := by
  unfold k35
  exact Kd.heap_iso _ (Kd.heap_pair (Kd.heap_int _) (Kd.heap_pair (Kd.heap_int _) (Kd.heap_pair (Kd.heap_int _) (Kd.heap_pair (Kd.heap_slice _ (Kd.heap_int _)) (Kd.heap_pair (Kd.heap_slice _ (Kd.heap_int _)) (Kd.heap_pair Kd.heap_string Kd.heap_bool))))))
theorem cells_job : Tryd.prog.cellsOf 35 = 7 := by kernel_rfl
theorem cells_int : Tryd.prog.cellsOf 3 = 1 := by kernel_rfl
theorem cells_ints : Tryd.prog.cellsOf 23 = 1 := by kernel_rfl
theorem cells_string : Tryd.prog.cellsOf 9 = 1 := by kernel_rfl
theorem cells_bool : Tryd.prog.cellsOf 4 = 1 := by kernel_rfl
theorem addr_add_add (a : Addr) (n m : Nat) : (a.add n).add m = a.add (n + m) := by
  unfold Addr.add
  by_cases hn : n = 0
  · subst hn
    simp
  · by_cases hm : m = 0
    · subst hm
      simp [hn]
    · rw [if_neg hm, if_neg hn, if_neg (by omega)]
      simp [Nat.add_assoc]
set_option maxRecDepth 100000 in
theorem ints_cell {H : Type} {enc : TypeId × Value → H} {W : World} {b : Nat} {sp : Nat → Bool} {held : Bool} {fuel : Nat} {v : Value} {x : DataW H × List MemPlace} (hf : DataW.trod enc Tryd.prog W b sp held fuel 23 [v] = some x) :
    ∃ (A : Option Addr) (l : List Int) (c : Nat), v = .slice A l.length c ∧ l.length ≤ c ∧ Kd.C (Kd.int .i64) W A l.length l ∧ ∀ n ∈ l, (Lit.int .i64 n).wf = true := by
  rcases open_ints Tryd.underlying23 Tryd.underlying3 cells_int hf with ⟨hcs, _⟩ | ⟨x, len, cap, zs, hcs, _, hl, hm, hz, _, hcell, hwz⟩
  · obtain rfl : v = .slice none 0 0 := by simpa using hcs
    exact ⟨none, [], 0, rfl, Nat.le_refl _, Kd.C_nil _ _, fun _ h => by cases h⟩
  · obtain rfl : v = .slice (some x) len cap := by simpa using hcs
    have hlz : len ≤ zs.length := by rw [hz]; split <;> omega
    have hlen : (zs.take len).length = len := by rw [List.length_take]; omega
    refine ⟨some x, zs.take len, cap, by rw [hlen], by omega, ⟨rfl, ?_, ?_⟩, fun n hn => hwz n (List.mem_of_mem_take hn)⟩
    · have := hm; unfold maxLen at this; omega
    · intro _
      refine ⟨x, rfl, fun j p hp => ?_⟩
      have hj : j < len := by
        have := (List.getElem?_eq_some_iff.1 hp).1
        omega
      have hp' : p = zs.getD j 0 := by
        rw [List.getElem?_take_of_lt hj] at hp
        simp [hp]
      subst hp'
      refine ⟨[.int .i64 (zs.getD j 0)], rfl, rfl, fun i u hu => ?_⟩
      match i, hu with
      | 0, hu => obtain rfl := Option.some.inj hu; simpa [Kd.int, Kd.scalar] using hcell j (by omega)
      | i + 1, hu => simp at hu
set_option maxRecDepth 100000 in
theorem open_intsC {H : Type} {enc : TypeId × Value → H} {W : World} {base b : Nat} {sp : Nat → Bool} {held : Bool} {v : Value} {d : DataW H} {ps : List MemPlace} (hval : Value.okWide Tryd.prog W .any base 23 v) (h : DataW.Trod enc Tryd.prog W b sp held 23 v d ps) :
    ∃ (A : Option Addr) (l : List Int) (c : Nat), v = .slice A l.length c ∧ l.length ≤ c ∧ Kd.C (Kd.int .i64) W A l.length l ∧ ∀ n ∈ l, (Lit.int .i64 n).wf = true := by
  obtain ⟨a, len, cap, rfl⟩ := okWide_slice Tryd.underlying23 hval
  obtain ⟨fuel, hf⟩ := h
  exact ints_cell hf
set_option maxRecDepth 100000 in
theorem job_cells {H : Type} {enc : TypeId × Value → H} {W : World} {b : Nat} {sp : Nat → Bool} {held : Bool} {fuel : Nat} {cs : List Value} {x : DataW H × List MemPlace} (hf : DataW.trod enc Tryd.prog W b sp held fuel 35 cs = some x) :
    ∃ j : S35, cs.length = 7 ∧ k35.K W j cs ∧ (Lit.int .i64 j.f0).wf = true ∧ (Lit.int .i64 j.f1).wf = true := by
  obtain ⟨xs, n, _, _, hl, hlen, hfs⟩ := DataW.trod_struct Tryd.underlying35 hf
  rw [cells_job] at hl
  match cs, hl with
  | [v0, v1, v2, v3, v4, v5, v6], _ =>
    match xs, hlen with
    | [y0, y1, y2, y3, y4, y5, y6], _ =>
      have h0 : DataW.trod enc Tryd.prog W b sp held n 3 (([v0, v1, v2, v3, v4, v5, v6].drop 0).take (Tryd.prog.cellsOf 3)) = some y0 := hfs 0 _ rfl
      rw [cells_int] at h0
      have h1 : DataW.trod enc Tryd.prog W b sp held n 3 (([v0, v1, v2, v3, v4, v5, v6].drop 1).take (Tryd.prog.cellsOf 3)) = some y1 := hfs 1 _ rfl
      rw [cells_int] at h1
      have h2 : DataW.trod enc Tryd.prog W b sp held n 3 (([v0, v1, v2, v3, v4, v5, v6].drop 2).take (Tryd.prog.cellsOf 3)) = some y2 := hfs 2 _ rfl
      rw [cells_int] at h2
      have h3 : DataW.trod enc Tryd.prog W b sp held n 23 (([v0, v1, v2, v3, v4, v5, v6].drop 3).take (Tryd.prog.cellsOf 23)) = some y3 := hfs 3 _ rfl
      rw [cells_ints] at h3
      have h4 : DataW.trod enc Tryd.prog W b sp held n 23 (([v0, v1, v2, v3, v4, v5, v6].drop 4).take (Tryd.prog.cellsOf 23)) = some y4 := hfs 4 _ rfl
      rw [cells_ints] at h4
      have h5 : DataW.trod enc Tryd.prog W b sp held n 9 (([v0, v1, v2, v3, v4, v5, v6].drop 5).take (Tryd.prog.cellsOf 9)) = some y5 := hfs 5 _ rfl
      rw [cells_string] at h5
      have h6 : DataW.trod enc Tryd.prog W b sp held n 4 (([v0, v1, v2, v3, v4, v5, v6].drop 6).take (Tryd.prog.cellsOf 4)) = some y6 := hfs 6 _ rfl
      rw [cells_bool] at h6
      obtain ⟨z0, e0, _, w0⟩ := DataW.trod_int Tryd.underlying3 (show DataW.trod enc Tryd.prog W b sp held n 3 [v0] = some y0 from h0)
      obtain ⟨z1, e1, _, w1⟩ := DataW.trod_int Tryd.underlying3 (show DataW.trod enc Tryd.prog W b sp held n 3 [v1] = some y1 from h1)
      obtain ⟨z2, e2, _, w2⟩ := DataW.trod_int Tryd.underlying3 (show DataW.trod enc Tryd.prog W b sp held n 3 [v2] = some y2 from h2)
      obtain ⟨A3, l3, c3, rfl, hc3, hr3, _⟩ := ints_cell (show DataW.trod enc Tryd.prog W b sp held n 23 [v3] = some y3 from h3)
      obtain ⟨A4, l4, c4, rfl, hc4, hr4, _⟩ := ints_cell (show DataW.trod enc Tryd.prog W b sp held n 23 [v4] = some y4 from h4)
      obtain ⟨s, e5, _, _⟩ := DataW.trod_string Tryd.underlying9 (show DataW.trod enc Tryd.prog W b sp held n 9 [v5] = some y5 from h5)
      obtain ⟨q, e6, _⟩ := DataW.trod_bool Tryd.underlying4 (show DataW.trod enc Tryd.prog W b sp held n 4 [v6] = some y6 from h6)
      simp only [List.cons.injEq, and_true] at e0 e1 e2 e5 e6
      subst e0 e1 e2 e5 e6
      exact ⟨⟨z0, z1, z2, l3, l4, s, q⟩, rfl, k35_mk W ⟨z0, z1, z2, l3, l4, s, q⟩ hc3 hr3 hc4 hr4, w0, w1⟩
set_option maxRecDepth 100000 in
theorem open_jobs {H : Type} {enc : TypeId × Value → H} {W : World} {base b : Nat} {sp : Nat → Bool} {held : Bool} {v : Value} {d : DataW H} {ps : List MemPlace} (hval : Value.okWide Tryd.prog W .any base 22 v) (h : DataW.Trod enc Tryd.prog W b sp held 22 v d ps) :
    ∃ (A : Option Addr) (l : List S35) (c : Nat), v = .slice A l.length c ∧ l.length ≤ c ∧ Kd.C k35 W A l.length l := by
  obtain ⟨a, len, cap, rfl⟩ := okWide_slice Tryd.underlying22 hval
  obtain ⟨fuel, hf⟩ := h
  rcases Deep.open_slice Tryd.underlying22 hf with ⟨hcs, _⟩ | ⟨x, l, c, m, n, D, Pl, hcs, _, hl, hm, hmm, _, hc⟩
  · simp [Value.cells] at hcs
    obtain ⟨rfl, rfl, rfl⟩ := hcs
    exact ⟨none, [], 0, rfl, Nat.le_refl _, Kd.C_nil _ _⟩
  · simp [Value.cells] at hcs
    obtain ⟨rfl, rfl, rfl⟩ := hcs
    have hlm : len ≤ m := by rw [hmm]; split <;> omega
    have each : ∀ i, i < len → ∃ q : S35, ∃ cs : List Value, cs.length = 7 ∧ k35.K W q cs ∧ ∀ j u, cs[j]? = some u → W.cell? ((x.add (i * 7)).add j) = some u := by
      intro i hi
      obtain ⟨cs, h1, h2⟩ := hc i (by omega)
      rw [cells_job] at h1
      obtain ⟨_, hcl, hcell⟩ := World.cells?_some h1
      obtain ⟨q, hl7, hk, _, _⟩ := job_cells h2
      refine ⟨q, cs, hl7, hk, fun j u hu => ?_⟩
      have hj : j < 7 := by have := (List.getElem?_eq_some_iff.1 hu).1; omega
      rw [hcell j hj, hu]
    obtain ⟨q, hq⟩ := Deep.choose_lt each
    refine ⟨some x, (List.range len).map q, cap, by simp, by simp; exact hl, ⟨rfl, ?_, ?_⟩⟩
    · have := hm; unfold maxLen at this; simp; omega
    · intro _
      refine ⟨x, rfl, fun j p hp => ?_⟩
      have hj : j < len := by
        have := (List.getElem?_eq_some_iff.1 hp).1
        simpa using this
      have hp' : p = q j := by
        rw [List.getElem?_map, List.getElem?_range hj] at hp
        exact (Option.some.inj hp).symm
      subst hp'
      obtain ⟨cs, hl7, hk, hcell⟩ := hq j hj
      refine ⟨cs, hl7, hk, fun i u hu => ?_⟩
      have := hcell i u hu
      rw [addr_add_add] at this
      exact this
set_option maxRecDepth 100000 in
theorem gl_of {W : World} {laid : List (String × DataW Unit)} (hpow : ("internal/strconv.uint64pow10", (Rows.laid_internal_strconv_uint64pow10 : DataW Unit)) ∈ laid)
    (h : laidMet Tryd.prog laid W) (hsh : W.ShapedOpen Tryd.prog) : Gl W := by
  refine ⟨?_, ?_⟩
  · exact Go.Proofs.cell_of_shapedOpen_int (zero := #[.int .i64 0]) (t := 3) hsh (of_decide_eq_true (by kernel_rfl)) (by kernel_rfl) rfl (by kernel_rfl) (by kernel_rfl) Tryd.underlying3
  · obtain ⟨g', t', cs, fuel, p, hg', ht', hvar, hd⟩ := Lib.laidMet.reads h hpow
    obtain rfl := Option.some.inj ((show Tryd.prog.globalNamed "internal/strconv.uint64pow10" = some 0 by kernel_rfl).symm.trans hg')
    obtain rfl := Option.some.inj ((show (Tryd.prog.globals[0]?).map (·.type) = some 94 by kernel_rfl).symm.trans ht')
    unfold Lib.TabIs
    rw [hvar, ← Lib.cells_of_tab Tryd.underlying94 Tryd.underlying81 (by kernel_rfl) (by kernel_rfl) (zs := Lib.pow10Tab) hd]
theorem wf_hi {n : Int} (h : (Lit.int .i64 n).wf = true) : n ≤ 9223372036854775807 := by
  simp [Lit.wf, IntKind.max, IntKind.min, IntKind.signed, IntKind.bits] at h
  omega
theorem mem_of_all {l : List Nat} (h : l.all (· ≤ reachBytes) = true) {l' : List Nat} (hs : ∀ n ∈ l', n ∈ l) : ∀ n ∈ l', n ≤ reachBytes := fun n hn => by simpa using List.all_eq_true.1 h n (hs n hn)
theorem handed_shaped {H : Type} {enc : TypeId × Value → H} {a : Assume} {C : Checked} {os : Os} {f : FuncId} {fn : Func} {s : ChangeSpec} {conds : List PathCond} {apart fresh handsOn again : Bool} {X : World → Array Value → Prop}
    (hX : ∀ (w w' : World) (args : Array Value), w.heap = w'.heap → X w args → X w' args)
    (own : ownKnob C.prog.godebug = none) (started : os.Started) (noInit : C.prog.inits.idxOf? f = none) (hfn : C.prog.funcs[f]? = some fn)
    (witness : ∃ (w : World) (tape : Tape) (i : Input), w.os = os ∧ (w.forCall tape i).Shaped C.prog ∧ i.vars = [] ∧ Input.okWide C.prog (w.forCall tape i) .any w.heap.size f i ∧
      ((s.pre enc C.prog fn conds apart (w.forCall tape i).memory i.args ∧ X (w.forCall tape i).memory i.args) ∧ sizedMet enc C.prog fn (OpenSpec.ofChange s) apart (w.forCall tape i).memory i.args) ∧ a.holds C.prog (lone (Frame.enter C.prog f i.args .normal) [] (w.forCall tape i)))
    (contract : ∀ (W : World) (base : Nat) (args : Array Value) (ds gs : List (DataW H)) (before : List MemPlace),
      (∀ (j : Nat) t v, fn.params[j]? = some t → args[j]? = some v → Value.okWide C.prog W .any base t v) →
      DataW.Whole enc C.prog fn.params.toList s.vars apart W args.toList ds gs before →
      (DataW.weightsEach C.prog (fn.params.toList ++ s.plain.varTypes C.prog) (ds ++ gs)).all (· ≤ reachBytes) = true → X W args → W.ShapedOpen C.prog →
      Calls C.prog f args W fun e W' => ∃ v, e = .returned v ∧ s.post enc C.prog fn apart fresh handsOn again W args v W') :
    ReturnsInHanded a C os f .any (fun w args => (s.pre enc C.prog fn conds apart w args ∧ X w args) ∧ sizedMet enc C.prog fn (OpenSpec.ofChange s) apart w args) (s.post enc C.prog fn apart fresh handsOn again) := by
  refine returnsInHanded_of_calls own started noInit witness ?_
  intro w tape i _ hsh _ hok hpre _
  obtain ⟨_, _, _, fn', hfn', _, _, _, _, hval⟩ := hok
  have e : fn' = fn := Option.some.inj (hfn'.symm.trans hfn)
  subst e
  obtain ⟨⟨⟨ds, gs, before, hw, _⟩, hx⟩, hz⟩ := hpre
  have hw' := DataW.Whole.of_heap (w' := w.forCall tape i) (by rfl) hw
  refine (contract (w.forCall tape i) w.heap.size i.args ds gs before hval hw' (hz.weights hw) (hX _ _ _ (by rfl) hx) hsh).mono fun e W' ⟨v, he, hp⟩ => ?_
  subst he
  exact ChangeSpec.post_blind hp
end Go.Proofs.YthafbimhmfjcoaaDoor.PS
