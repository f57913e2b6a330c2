/- strings.Join at this dump: the shelf's contract, its table filled by hand (the shelf's own command leaves it out), and the program's join over it. -/
import Derived.Test.YthafbimhmfjcoaaDoorProg
import Derived.Shelf.Strings.OnBuilder
import Derived.Test.YthafbimhmfjcoaaDoorGl
import Derived.Test.YthafbimhmfjcoaaDoorWMore
import Derived.Tactics
import Derived.WalkKit
namespace Go.Proofs
open Go.Shelf Go.RowKit
def Tryd.jren : Go.Shelf.Ren := ⟨fun | 156 => 59 | 165 => 74 | 166 => 75 | 169 => 76 | 240 => 91 | 241 => 92 | 276 => 100 | 277 => 101 | n => n, fun | 0 => 0 | 3 => 3 | 4 => 4 | 5 => 5 | 9 => 9 | 20 => 20 | 31 => 45 | 37 => 84 | 70 => 88 | 72 => 90 | 75 => 75 | 76 => 76 | 80 => 92 | 127 => 106 | 164 => 116 | n => n, fun n => n⟩
theorem Tryd.jextra : Builder.Extra Tryd.prog Tryd.jren := {
  sizeBuilder := by kernel_rfl
  liesBuilder := by kernel_rfl
  t5 := Tryd.underlying5
  a5 := Tryd.isAgg5
  z5 := Tryd.sizeOf5
  v5 := Tryd.zeroValue5
  infoByte := by kernel_rfl
  cellsByte := by kernel_rfl
  sizeByte := by kernel_rfl
  neB5 := by decide }
theorem Tryd.jlays156 : Lays.n156 Tryd.prog Tryd.jren := {
  mixed := by kernel_rfl
  f156 := Tryd.func59.trans (congrArg some (by kernel_rfl))
  f165 := Tryd.func74.trans (congrArg some (by kernel_rfl))
  f166 := Tryd.func75.trans (congrArg some (by kernel_rfl))
  f169 := Tryd.func76.trans (congrArg some (by kernel_rfl))
  f240 := Tryd.func91.trans (congrArg some (by kernel_rfl))
  f241 := Tryd.func92.trans (congrArg some (by kernel_rfl))
  f276 := Tryd.func100.trans (congrArg some (by kernel_rfl))
  f277 := Tryd.func101.trans (congrArg some (by kernel_rfl))
  t0 := Tryd.underlying0
  a0 := Tryd.isAgg0
  z0 := Tryd.sizeOf0
  v0 := Tryd.zeroValue0
  t3 := Tryd.underlying3
  a3 := Tryd.isAgg3
  z3 := Tryd.sizeOf3
  v3 := Tryd.zeroValue3
  t4 := Tryd.underlying4
  a4 := Tryd.isAgg4
  z4 := Tryd.sizeOf4
  v4 := Tryd.zeroValue4
  t9 := Tryd.underlying9
  a9 := Tryd.isAgg9
  z9 := Tryd.sizeOf9
  v9 := Tryd.zeroValue9
  t20 := Tryd.underlying20
  a20 := Tryd.isAgg20
  z20 := Tryd.sizeOf20
  v20 := Tryd.zeroValue20
  t31 := Tryd.underlying45
  a31 := Tryd.isAgg45
  z31 := Tryd.sizeOf45
  v31 := Tryd.zeroValue45
  t37 := Tryd.underlying84
  a37 := Tryd.isAgg84
  z37 := Tryd.sizeOf84
  v37 := Tryd.zeroValue84
  t70 := Tryd.underlying88
  a70 := Tryd.isAgg88
  z70 := Tryd.sizeOf88
  v70 := Tryd.zeroValue88
  t72 := Tryd.underlying90
  a72 := Tryd.isAgg90
  z72 := Tryd.sizeOf90
  v72 := Tryd.zeroValue90
  t75 := Tryd.underlying75
  a75 := Tryd.isAgg75
  z75 := Tryd.sizeOf75
  v75 := Tryd.zeroValue75
  t76 := Tryd.underlying76
  a76 := Tryd.isAgg76
  z76 := Tryd.sizeOf76
  v76 := Tryd.zeroValue76
  t127 := Tryd.underlying106
  a127 := Tryd.isAgg106
  z127 := Tryd.sizeOf106
  v127 := Tryd.zeroValue106
  t164 := Tryd.underlying116
  a164 := Tryd.isAgg116
  z164 := Tryd.sizeOf116
  v164 := Tryd.zeroValue116 }
theorem Tryd.j_Join (bk o c : Nat) (xs : List ByteArray) (sep : ByteArray) (w : World)
    (hcells : ∀ (j : Nat) x, xs[j]? = some x → w.cell? ⟨bk, o + j, none⟩ = some (.string x))
    (hbk : bk < w.heap.size) (hN : xs.length ≤ 140737488355328) (hcap : xs.length ≤ c)
    (hlen : (Lib.join (xs.map (·.data.toList)) sep.data.toList).length ≤ 140737488355328) :
    Calls Tryd.prog 59 #[.slice (some ⟨bk, o, none⟩) xs.length c, .string sep] w fun e w' => e = .returned (.string ⟨(Lib.join (xs.map (·.data.toList)) sep.data.toList).toArray⟩) ∧ Below w.heap.size w w' :=
  Any.strings_Join Tryd.jlays156 Tryd.jextra bk o c xs sep w hcells hbk hN hcap hlen
end Go.Proofs
namespace Go.Proofs.YthafbimhmfjcoaaDoorW.PrintWords
set_option linter.unusedVariables false
open Go.RowKit
theorem join_flat (xs : List (List UInt8)) : Lib.join xs [] = xs.flatten := by
  unfold Lib.join
  induction xs with
  | nil => rfl
  | cons x r ih =>
    cases r with
    | nil => simp [List.intercalate]
    | cons y r =>
      rw [List.intercalate] at ih ⊢
      rw [List.intersperse_cons_cons, List.flatten_cons, List.flatten_cons, ih]
      simp
set_option maxHeartbeats 1000000 in
theorem jobs_join_calls (g : Nat) (c : Nat) (l : List ByteArray) (w : World) (hC : Kd.C Kd.string w (some ⟨g, 0, none⟩) l.length l) (hc : l.length ≤ c) (h0 : 0 < l.length) (h1 : l.length ≤ 1000) (h2 : (l.map (·.data.toList)).flatten.length ≤ 140737488355328) :
    Calls Tryd.prog 44 #[.slice (some ⟨g, 0, none⟩) l.length c] w fun e w' => e = .returned (.string ⟨(l.map (·.data.toList)).flatten.toArray⟩) ∧ Below w.heap.size w w' := by
  have hcs : ∀ j (hj : j < l.length), w.cell? ⟨g, j, none⟩ = some (.string l[j]) := by
    intro j hj
    obtain ⟨ad, had, hc⟩ := hC.2.2 h0
    obtain rfl := Option.some.inj had
    obtain ⟨cc, hs, hr, hcell⟩ := hc j l[j] (List.getElem?_eq_getElem hj)
    have hr' : cc = [Value.string l[j]] := hr
    subst hr'
    have := hcell 0 (Value.string l[j]) rfl
    rw [show Kd.string.sz = 1 from rfl] at this
    have e : (Addr.mk g 0 none).add (j * 1 + 0) = ⟨g, j, none⟩ := by
      unfold Addr.add
      split
      · congr 1; omega
      · simp
    rw [e] at this
    exact this
  have hJ := Tryd.j_Join g 0 c l ⟨#[]⟩ w (fun j x hx => by
    obtain ⟨hj, rfl⟩ := List.getElem?_eq_some_iff.1 hx
    rw [Nat.zero_add]
    exact hcs j hj) (World.block_lt_of_cell? w _ (hcs 0 h0)) (by omega) hc (by rw [show (⟨#[]⟩ : ByteArray).data.toList = [] from rfl, join_flat]; exact h2)
  rw [show (⟨#[]⟩ : ByteArray).data.toList = [] from rfl, join_flat] at hJ
  have HJ := Aside0.mk hJ
  clear hJ hcs hC
  go_enter Tryd.func44, Tryd.ntmps44
  go_wp2_with (go_at_call 59; refine HJ.out.mono ?_; rintro e w' ⟨rfl, hb⟩)
  go_ret
  exact ⟨rfl, hb⟩
end Go.Proofs.YthafbimhmfjcoaaDoorW.PrintWords
