/- chars.Quote: the whole contract. -/
import Derived.Test.YtphgcpoefpogfaaDoorChWalk3
import Derived.Test.YtphgcpoefpogfaaDoorRep1
namespace Go.Proofs.YtphgcpoefpogfaaDoor.Ch
open Go.RowKit

theorem eh {α : Type} {a b : α} (h : a = b) : Hid (a = b) := h
theorem hid_eq {α : Type} {a b : α} (h : Hid (a = b)) : a = b := h
theorem str_eq {x y : ByteArray} (h : x.data.toList = y.data.toList) : Ending.returned (.string x) = Ending.returned (.string y) := by
  have : x = y := by
    cases x; cases y
    exact congrArg _ (Array.toList_inj.1 h)
  rw [this]
theorem bne_nil (l : List UInt8) : (!l.isEmpty) = (l != []) := by cases l <;> rfl
theorem plain_call (s : ByteArray) (w : World) (b : Bool) (hb : Hid (plainL s.data.toList = b)) :
    Calls Tryd.prog 48 #[.string s] w fun e w' => e = .returned (.bool b) ∧ Below w.heap.size w w' := by
  have := plain_walk s w
  rw [hid_eq hb] at this
  exact this

set_option maxHeartbeats 4000000 in
set_option maxRecDepth 100000 in
theorem quote_walk (s : ByteArray) (w : World) (hs : s.size ≤ 10000000000) :
    Calls Tryd.prog 43 #[.string s] w fun e w' => e = .returned (.string ⟨(quoteL s.data.toList).toArray⟩) ∧ Below w.heap.size w w' := by
  by_cases hp : plainL s.data.toList = true
  · have HP := Lib.hid hp
    have E : Hid (quoteL s.data.toList = s.data.toList) := eh (by unfold quoteL; rw [if_pos hp])
    clear hp
    go_enter Tryd.func43, Tryd.ntmps43
    go_wp2_with fail
    refine (plain_call s w true HP).mono ?_
    rintro e w1 ⟨rfl, h1⟩
    have H1 := Lib.hid h1
    clear h1
    go_wp2
    go_ret
    rw [hid_eq E]
    exact ⟨rfl, H1.out⟩
  · have HP := Lib.hid (by simpa using hp : plainL s.data.toList = false)
    have E : Hid (quoteL s.data.toList = [39] ++ Rep.quoAll s.data.toList ++ [39]) := eh (by unfold quoteL; rw [if_neg hp]; rfl)
    obtain ⟨q, hq⟩ : ∃ q, Rep.quoAll s.data.toList = q := ⟨_, rfl⟩
    have L : q.length ≤ 4 * s.size := by rw [← hq]; exact Rep.quoAll_len _
    have C : ∀ W, Hid (Calls Tryd.prog 49 #[.string s, .string ⟨#[39]⟩, .string ⟨#[39, 92, 39, 39]⟩] W fun e w' => e = .returned (.string ⟨q.toArray⟩) ∧ Below W.heap.size W w') := fun W => by
      have := Rep.replaceAll_walk s W hs
      rw [hq] at this
      exact this
    have HC := Lib.hid C
    rw [hq] at E
    clear hp hq C
    go_enter Tryd.func43, Tryd.ntmps43
    go_wp2_with fail
    refine (plain_call s w false HP).mono ?_
    rintro e w1 ⟨rfl, h1⟩
    have H1 := Lib.hid h1
    clear h1
    go_wp2_with fail
    refine ((HC.out w1).out).mono ?_
    rintro e w2 ⟨rfl, h2⟩
    have H2 := Lib.hid (H1.out.trans (h2.mono H1.out.size))
    clear h2
    go_wp2
    go_ret
    refine ⟨str_eq ?_, H2.out⟩
    rw [hid_eq E]
    simp
end Go.Proofs.YtphgcpoefpogfaaDoor.Ch
