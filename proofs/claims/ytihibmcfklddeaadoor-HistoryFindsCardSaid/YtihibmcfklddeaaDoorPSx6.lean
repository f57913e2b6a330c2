-- Written by a program of this session's (wip/mkprint.py) out of the translation; the texts of functions that the program does not take are mine.
import Derived.Test.YtihibmcfklddeaaDoorPSx0
namespace Go.Proofs.YtihibmcfklddeaaDoor.PS
open Go.RowKit Go.Proofs.YtihibmcfklddeaaDoorW.PrintWords Go.Proofs.YtihibmcfklddeaaDoorW.PrintLast Go.Proofs.YtihibmcfklddeaaDoorW.PrintMore
attribute [local go_sem] max2_int min2_int max_two min_two max_three min_three max_four min_four   -- for this text's walks alone
set_option linter.unusedVariables false
set_option linter.unusedSimpArgs false

/-! ### jobshellref43_Get: function 19 -/
def jobshellref43_Get.f (a0_0 : Int) (l0_1 : List ByteArray) (a1 : Int) : Option (ByteArray × Int) := if HL.rngB a0_0 = true ∧ HL.smB l0_1 = true ∧ a1 ≤ 9223372036854775807 then some (HL.getP a0_0 l0_1 a1) else none
theorem jobshellref43_Get.calls (a0_0 : Int) (A0_1 : Option Addr) (c0_1 : Nat) (l0_1 : List ByteArray) (a1 : Int) (r1 : ByteArray) (r2 : Int) (w : World) (hr0_1 : Kd.C Kd.string w A0_1 l0_1.length l0_1) (hc0_1 : l0_1.length ≤ c0_1) (h : jobshellref43_Get.f a0_0 l0_1 a1 = some (r1, r2)) (hG : Gl w) :
    Calls Tryd.prog 19 #[.agg #[.int .i64 a0_0, .slice A0_1 l0_1.length c0_1], .int .i64 a1] w fun e w' => e = .returned (.tuple #[.string r1, .int .i64 r2]) ∧ Below w.heap.size w w' := by
  unfold jobshellref43_Get.f at h
  split at h
  case isFalse => cases h
  rename_i hb
  obtain ⟨h1, h2⟩ := HL.rngB_iff.1 hb.1
  obtain ⟨k, hk⟩ := (PV.rget_ev a0_0 l0_1 a1 h1 h2 (HL.smB_len hb.2.1)).get
  rw [← hk] at h
  exact PV.jobshellref43_Get.calls k a0_0 A0_1 c0_1 l0_1 a1 r1 r2 w hr0_1 hc0_1 h hG


/-! ### jobshellref43_Begins: function 21 -/
def jobshellref43_Begins.f (a0_0 : Int) (l0_1 : List ByteArray) (a1 : ByteArray) : Option (Int × Bool) := if HL.rngB a0_0 = true ∧ HL.smB l0_1 = true ∧ a1.size ≤ 1000000 then some (HL.beginsP a0_0 l0_1 a1) else none
theorem jobshellref43_Begins.calls (a0_0 : Int) (A0_1 : Option Addr) (c0_1 : Nat) (l0_1 : List ByteArray) (a1 : ByteArray) (r1 : Int) (r2 : Bool) (w : World) (hr0_1 : Kd.C Kd.string w A0_1 l0_1.length l0_1) (hc0_1 : l0_1.length ≤ c0_1) (h : jobshellref43_Begins.f a0_0 l0_1 a1 = some (r1, r2)) (hG : Gl w) :
    Calls Tryd.prog 21 #[.agg #[.int .i64 a0_0, .slice A0_1 l0_1.length c0_1], .string a1] w fun e w' => e = .returned (.tuple #[.int .i64 r1, .bool r2]) ∧ Below w.heap.size w w' := by
  unfold jobshellref43_Begins.f at h
  split at h
  case isFalse => cases h
  rename_i hb
  obtain ⟨h1, h2⟩ := HL.rngB_iff.1 hb.1
  obtain ⟨k, hk⟩ := (PV.rbegins_ev a0_0 l0_1 a1 h1 h2 (HL.smB_len hb.2.1)).get
  rw [← hk] at h
  exact PV.jobshellref43_Begins.calls k a0_0 A0_1 c0_1 l0_1 a1 r1 r2 w hr0_1 hc0_1 h hG


/-! ### jobshellref43_Contains: function 23 -/
def jobshellref43_Contains.f (a0_0 : Int) (l0_1 : List ByteArray) (a1 : ByteArray) : Option (Int × Bool) := if HL.rngB a0_0 = true ∧ HL.smB l0_1 = true ∧ a1.size ≤ 1000000 then some (HL.containsP a0_0 l0_1 a1) else none
theorem jobshellref43_Contains.calls (a0_0 : Int) (A0_1 : Option Addr) (c0_1 : Nat) (l0_1 : List ByteArray) (a1 : ByteArray) (r1 : Int) (r2 : Bool) (w : World) (hr0_1 : Kd.C Kd.string w A0_1 l0_1.length l0_1) (hc0_1 : l0_1.length ≤ c0_1) (h : jobshellref43_Contains.f a0_0 l0_1 a1 = some (r1, r2)) (hG : Gl w) :
    Calls Tryd.prog 23 #[.agg #[.int .i64 a0_0, .slice A0_1 l0_1.length c0_1], .string a1] w fun e w' => e = .returned (.tuple #[.int .i64 r1, .bool r2]) ∧ Below w.heap.size w w' := by
  unfold jobshellref43_Contains.f at h
  split at h
  case isFalse => cases h
  rename_i hb
  obtain ⟨h1, h2⟩ := HL.rngB_iff.1 hb.1
  obtain ⟨k, hk⟩ := (PV.rcontains_ev a0_0 l0_1 a1 h1 h2 (HL.smB_len hb.2.1) (HL.smB_all hb.2.1) hb.2.2).get
  rw [← hk] at h
  exact PV.jobshellref43_Contains.calls k a0_0 A0_1 c0_1 l0_1 a1 r1 r2 w hr0_1 hc0_1 h hG


/-! ### jobshellref43_Save: function 25 -/
def jobshellref43_Save.f (a0_0 : Int) (l0_1 : List ByteArray) : Option (ByteArray) := if HL.rngB a0_0 = true ∧ HL.smB l0_1 = true then some (HL.saveP a0_0 l0_1) else none
theorem jobshellref43_Save.calls (a0_0 : Int) (A0_1 : Option Addr) (c0_1 : Nat) (l0_1 : List ByteArray) (r : ByteArray) (w : World) (hr0_1 : Kd.C Kd.string w A0_1 l0_1.length l0_1) (hc0_1 : l0_1.length ≤ c0_1) (h : jobshellref43_Save.f a0_0 l0_1 = some r) (hG : Gl w) :
    Calls Tryd.prog 25 #[.agg #[.int .i64 a0_0, .slice A0_1 l0_1.length c0_1]] w fun e w' => e = .returned (.string r) ∧ Below w.heap.size w w' := by
  unfold jobshellref43_Save.f at h
  split at h
  case isFalse => cases h
  rename_i hb
  obtain rfl := Option.some.inj h
  obtain ⟨h1, h2⟩ := HL.rngB_iff.1 hb.1
  obtain ⟨k, hk⟩ := (PV.rsave_ev a0_0 l0_1 h1 h2 (HL.smB_len hb.2) (HL.smB_all hb.2)).get
  exact PV.jobshellref43_Save.calls k a0_0 A0_1 c0_1 l0_1 _ w hr0_1 hc0_1 hk hG


end Go.Proofs.YtihibmcfklddeaaDoor.PS
