/- What the given contracts lean on. -/
import Derived.Test.YtihibmcfklddeaaDoorHLoad
import Derived.Test.YtihibmcfklddeaaDoorHFindBegins
import Derived.Test.YtihibmcfklddeaaDoorHFindContains
import Derived.Test.YtihibmcfklddeaaDoorHAEx
namespace Go.Proofs.YtihibmcfklddeaaDoor.HL
set_option linter.unusedVariables false
set_option linter.unusedSimpArgs false
open Go.RowKit
def szB (l : List ByteArray) : Bool := decide (l.length ≤ 4611686018427387904) && l.all (fun x => decide (x.size ≤ 4611686018427387904))
theorem szB_len {l : List ByteArray} (h : szB l = true) : l.length ≤ 4611686018427387904 := by
  unfold szB at h
  rw [Bool.and_eq_true] at h
  exact of_decide_eq_true h.1
theorem szB_all {l : List ByteArray} (h : szB l = true) : ∀ x ∈ l, x.size ≤ 4611686018427387904 := by
  unfold szB at h
  rw [Bool.and_eq_true] at h
  intro x hx
  exact of_decide_eq_true (List.all_eq_true.1 h.2 x hx)
theorem szB_mk {l : List ByteArray} (h1 : l.length ≤ 4611686018427387904) (h2 : ∀ x ∈ l, x.size ≤ 4611686018427387904) : szB l = true := by
  unfold szB
  rw [Bool.and_eq_true]
  exact ⟨decide_eq_true h1, List.all_eq_true.2 fun x hx => decide_eq_true (h2 x hx)⟩
theorem numAt_P (a : Int) (p : ByteArray → Bool) (l : List ByteArray) (h1 : 0 ≤ a) (h2 : a ≤ 4611686018427387904) (hl : l.length ≤ 400) : HF.numAt a (HF.lastIx p l) = numP a (HF.lastIx p l) := by
  unfold HF.numAt numP
  have lo := HF.lastIx_lo p l
  have hi := HF.lastIx_hi p l
  split
  · rfl
  · rw [PE.wr (by omega) (by rcases hi with h | rfl; · omega
                             · simp [HF.lastIx] at *)]
theorem lines_is : ∀ l, HS.linesB l = linesB l
  | [] => rfl
  | x :: r => by simp only [HS.linesB, linesB, lines_is r]
theorem save_is (a : Int) (l : List ByteArray) (h1 : 0 ≤ a) (h2 : a ≤ 4611686018427387904) : saveP a l = ⟨(HS.saveB a l).toArray⟩ := by
  unfold saveP HS.saveB
  rw [itoaP_eq a (by omega) (by omega), lines_is]
theorem save_fits (a : Int) (l : List ByteArray) (h1 : 0 ≤ a) (h2 : a ≤ 4611686018427387904) (hl : l.length ≤ 400) (hsz : ∀ x ∈ l, x.size ≤ 1000000) : (HS.saveB a l).length ≤ 100000000000000 := by
  have h3 := HS.linesB_len l 1000000 hsz
  have h4 := PV.itoaP_len a
  rw [itoaP_eq a (by omega) (by omega)] at h4
  have h5 : l.length * (1000000 + 1) ≤ 400 * (1000000 + 1) := Nat.mul_le_mul_right _ hl
  unfold HS.saveB
  simp only [List.length_append, List.length_cons]
  omega
end Go.Proofs.YtihibmcfklddeaaDoor.HL
