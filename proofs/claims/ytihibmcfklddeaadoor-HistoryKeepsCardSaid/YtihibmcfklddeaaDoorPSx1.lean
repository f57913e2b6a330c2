-- Written by a program of this session's (wip/mkprint.py) out of the translation; the texts of functions that the program does not take are mine.
import Derived.Test.YtihibmcfklddeaaDoorPSx0
namespace Go.Proofs.YtihibmcfklddeaaDoor.PS
open Go.RowKit Go.Proofs.YtihibmcfklddeaaDoorW.PrintWords Go.Proofs.YtihibmcfklddeaaDoorW.PrintLast Go.Proofs.YtihibmcfklddeaaDoorW.PrintMore
attribute [local go_sem] max2_int min2_int max_two min_two max_three min_three max_four min_four   -- for this text's walks alone
set_option linter.unusedVariables false
set_option linter.unusedSimpArgs false

/-! ### jobshellref43_Small: function 10 -/
def jobshellref43_Small.f (a0_0 : Int) (l0_1 : List ByteArray) : Option (Bool) := if HL.szB l0_1 = true then some (HL.smallP l0_1) else none
theorem jobshellref43_Small.calls (a0_0 : Int) (A0_1 : Option Addr) (c0_1 : Nat) (l0_1 : List ByteArray) (r : Bool) (w : World) (hr0_1 : Kd.C Kd.string w A0_1 l0_1.length l0_1) (hc0_1 : l0_1.length ≤ c0_1) (h : jobshellref43_Small.f a0_0 l0_1 = some r) (hG : Gl w) :
    Calls Tryd.prog 10 #[.agg #[.int .i64 a0_0, .slice A0_1 l0_1.length c0_1]] w fun e w' => e = .returned (.bool r) ∧ Below w.heap.size w w' := by
  unfold jobshellref43_Small.f at h
  split at h
  case isFalse => cases h
  rename_i hb
  obtain rfl := Option.some.inj h
  obtain ⟨k, hk⟩ := (PV.small_ev a0_0 l0_1 (HL.szB_all hb) (HL.szB_len hb)).get
  exact PV.jobshellref43_Small.calls k a0_0 A0_1 c0_1 l0_1 _ w hr0_1 hc0_1 hk hG


/-! ### history_Valid: function 11 -/
def history_Valid.f (a0_0 : Int) (l0_1 : List ByteArray) : Option (Int) := if HL.smB l0_1 = true then some (HL.validP a0_0 l0_1) else none
theorem history_Valid.calls (a0_0 : Int) (A0_1 : Option Addr) (c0_1 : Nat) (l0_1 : List ByteArray) (r : Int) (w : World) (hr0_1 : Kd.C Kd.string w A0_1 l0_1.length l0_1) (hc0_1 : l0_1.length ≤ c0_1) (h : history_Valid.f a0_0 l0_1 = some r) (hG : Gl w) :
    Calls Tryd.prog 11 #[.agg #[.int .i64 a0_0, .slice A0_1 l0_1.length c0_1]] w fun e w' => e = .returned (.int .i64 r) ∧ Below w.heap.size w w' := by
  unfold history_Valid.f at h
  split at h
  case isFalse => cases h
  rename_i hb
  obtain rfl := Option.some.inj h
  exact PV.valid_walk a0_0 l0_1 A0_1 c0_1 w hr0_1 hc0_1 (fun x hx => by have := HL.smB_all hb x hx; omega) hG


/-! ### jobshellref43_Valid: function 12 -/
def jobshellref43_Valid.f (a0_0 : Int) (l0_1 : List ByteArray) : Option (Int) := if HL.smB l0_1 = true then some (HL.validP a0_0 l0_1) else none
theorem jobshellref43_Valid.calls (a0_0 : Int) (A0_1 : Option Addr) (c0_1 : Nat) (l0_1 : List ByteArray) (r : Int) (w : World) (hr0_1 : Kd.C Kd.string w A0_1 l0_1.length l0_1) (hc0_1 : l0_1.length ≤ c0_1) (h : jobshellref43_Valid.f a0_0 l0_1 = some r) (hG : Gl w) :
    Calls Tryd.prog 12 #[.agg #[.int .i64 a0_0, .slice A0_1 l0_1.length c0_1]] w fun e w' => e = .returned (.int .i64 r) ∧ Below w.heap.size w w' := by
  unfold jobshellref43_Valid.f at h
  split at h
  case isFalse => cases h
  rename_i hb
  obtain rfl := Option.some.inj h
  obtain ⟨k, hk⟩ := (PV.rvalid_ev a0_0 l0_1 (fun x hx => by have := HL.smB_all hb x hx; omega)).get
  exact PV.jobshellref43_Valid.calls k a0_0 A0_1 c0_1 l0_1 _ w hr0_1 hc0_1 hk hG


/-! ### history_Add: function 15 -/
def history_Add.f (a0_0 : Int) (l0_1 : List ByteArray) (a1 : ByteArray) : Option (Int × List ByteArray × Int) := if HL.rngB a0_0 = true ∧ HL.smB l0_1 = true ∧ a1.size ≤ 1000000 then some (HL.addP a0_0 l0_1 a1) else none
theorem history_Add.calls (a0_0 : Int) (P0_1_ : Nat → Prop) (A0_1 : Option Addr) (c0_1 : Nat) (l0_1 : List ByteArray) (a1 : ByteArray) (r1 : Int) (r2 : List ByteArray) (r3 : Int) (w : World) (hs0_1 : Kd.V Kd.string 9 w w.heap.size (fun k_ => P0_1_ k_) (.slice A0_1 l0_1.length c0_1) l0_1) (h : history_Add.f a0_0 l0_1 a1 = some (r1, r2, r3)) (hG : Gl w) :
    Calls Tryd.prog 15 #[.agg #[.int .i64 a0_0, .slice A0_1 l0_1.length c0_1], .string a1] w fun e w' => ∃ v1_ : Value, e = .returned (.tuple #[.agg #[.int .i64 r1, v1_], .int .i64 r3]) ∧ Kd.V Kd.string 9 w' w.heap.size (fun k_ => (P0_1_ k_ ∨ w.heap.size ≤ k_)) v1_ r2 ∧ Below w.heap.size w w' := by
  unfold history_Add.f at h
  split at h
  case isFalse => cases h
  rename_i hb
  obtain ⟨h1, h2⟩ := HL.rngB_iff.1 hb.1
  obtain ⟨k, hk⟩ := (PV.add_ev a0_0 l0_1 a1 h1 (HL.smB_len hb.2.1) hb.2.2).get
  rw [← hk] at h
  exact PV.history_Add.calls k a0_0 P0_1_ A0_1 c0_1 l0_1 a1 r1 r2 r3 w hs0_1 h hG


/-! ### history_Get: function 18 -/
def history_Get.f (a0_0 : Int) (l0_1 : List ByteArray) (a1 : Int) : Option (ByteArray × Int) := if HL.rngB a0_0 = true ∧ HL.smB l0_1 = true ∧ a1 ≤ 9223372036854775807 then some (HL.getP a0_0 l0_1 a1) else none
theorem history_Get.calls (a0_0 : Int) (A0_1 : Option Addr) (c0_1 : Nat) (l0_1 : List ByteArray) (a1 : Int) (r1 : ByteArray) (r2 : Int) (w : World) (hr0_1 : Kd.C Kd.string w A0_1 l0_1.length l0_1) (hc0_1 : l0_1.length ≤ c0_1) (h : history_Get.f a0_0 l0_1 a1 = some (r1, r2)) (hG : Gl w) :
    Calls Tryd.prog 18 #[.agg #[.int .i64 a0_0, .slice A0_1 l0_1.length c0_1], .int .i64 a1] w fun e w' => e = .returned (.tuple #[.string r1, .int .i64 r2]) ∧ Below w.heap.size w w' := by
  unfold history_Get.f at h
  split at h
  case isFalse => cases h
  rename_i hb
  obtain ⟨h1, h2⟩ := HL.rngB_iff.1 hb.1
  rw [← PV.get_eq a0_0 l0_1 a1 h1 h2 hb.2.2] at h
  exact PV.history_Get.calls a0_0 A0_1 c0_1 l0_1 a1 r1 r2 w hr0_1 hc0_1 h hG


/-! ### history_Begins: function 20 -/
def history_Begins.f (a0_0 : Int) (l0_1 : List ByteArray) (a1 : ByteArray) : Option (Int × Bool) := if HL.rngB a0_0 = true ∧ HL.smB l0_1 = true ∧ a1.size ≤ 1000000 then some (HL.beginsP a0_0 l0_1 a1) else none
theorem history_Begins.calls (a0_0 : Int) (A0_1 : Option Addr) (c0_1 : Nat) (l0_1 : List ByteArray) (a1 : ByteArray) (r1 : Int) (r2 : Bool) (w : World) (hr0_1 : Kd.C Kd.string w A0_1 l0_1.length l0_1) (hc0_1 : l0_1.length ≤ c0_1) (h : history_Begins.f a0_0 l0_1 a1 = some (r1, r2)) (hG : Gl w) :
    Calls Tryd.prog 20 #[.agg #[.int .i64 a0_0, .slice A0_1 l0_1.length c0_1], .string a1] w fun e w' => e = .returned (.tuple #[.int .i64 r1, .bool r2]) ∧ Below w.heap.size w w' := by
  unfold history_Begins.f at h
  split at h
  case isFalse => cases h
  rename_i hb
  obtain ⟨h1, h2⟩ := HL.rngB_iff.1 hb.1
  have := HF.findBegins a0_0 l0_1 A0_1 c0_1 a1 w hr0_1 hG (fun x hx => by have := HL.smB_all hb.2.1 x hx; omega)
  rw [HL.numAt_P a0_0 _ l0_1 h1 h2 (HL.smB_len hb.2.1)] at this
  rw [show HL.numP a0_0 (HF.lastIx (HF.wordBegins a1) l0_1) = (r1, r2) from Option.some.inj h] at this
  exact this


/-! ### history_Contains: function 22 -/
def history_Contains.f (a0_0 : Int) (l0_1 : List ByteArray) (a1 : ByteArray) : Option (Int × Bool) := if HL.rngB a0_0 = true ∧ HL.smB l0_1 = true ∧ a1.size ≤ 1000000 then some (HL.containsP a0_0 l0_1 a1) else none
theorem history_Contains.calls (a0_0 : Int) (A0_1 : Option Addr) (c0_1 : Nat) (l0_1 : List ByteArray) (a1 : ByteArray) (r1 : Int) (r2 : Bool) (w : World) (hr0_1 : Kd.C Kd.string w A0_1 l0_1.length l0_1) (hc0_1 : l0_1.length ≤ c0_1) (h : history_Contains.f a0_0 l0_1 a1 = some (r1, r2)) (hG : Gl w) :
    Calls Tryd.prog 22 #[.agg #[.int .i64 a0_0, .slice A0_1 l0_1.length c0_1], .string a1] w fun e w' => e = .returned (.tuple #[.int .i64 r1, .bool r2]) ∧ Below w.heap.size w w' := by
  unfold history_Contains.f at h
  split at h
  case isFalse => cases h
  rename_i hb
  obtain ⟨h1, h2⟩ := HL.rngB_iff.1 hb.1
  have := HF.findContains a0_0 l0_1 A0_1 c0_1 a1 w hr0_1 hG (fun x hx => by have := HL.smB_all hb.2.1 x hx; omega)
  rw [HL.numAt_P a0_0 _ l0_1 h1 h2 (HL.smB_len hb.2.1)] at this
  rw [show HL.numP a0_0 (HF.lastIx (HF.wordContains a1) l0_1) = (r1, r2) from Option.some.inj h] at this
  exact this


/-! ### history_Save: function 24 -/
def history_Save.f (a0_0 : Int) (l0_1 : List ByteArray) : Option (ByteArray) := if HL.rngB a0_0 = true ∧ HL.smB l0_1 = true then some (HL.saveP a0_0 l0_1) else none
theorem history_Save.calls (a0_0 : Int) (A0_1 : Option Addr) (c0_1 : Nat) (l0_1 : List ByteArray) (r : ByteArray) (w : World) (hr0_1 : Kd.C Kd.string w A0_1 l0_1.length l0_1) (hc0_1 : l0_1.length ≤ c0_1) (h : history_Save.f a0_0 l0_1 = some r) (hG : Gl w) :
    Calls Tryd.prog 24 #[.agg #[.int .i64 a0_0, .slice A0_1 l0_1.length c0_1]] w fun e w' => e = .returned (.string r) ∧ Below w.heap.size w w' := by
  unfold history_Save.f at h
  split at h
  case isFalse => cases h
  rename_i hb
  obtain rfl := Option.some.inj h
  obtain ⟨h1, h2⟩ := HL.rngB_iff.1 hb.1
  have he : HL.saveP a0_0 l0_1 = ⟨(HS.saveB a0_0 l0_1).toArray⟩ := HL.save_is a0_0 l0_1 h1 h2
  rw [he]
  exact HS.save_walk a0_0 l0_1 A0_1 c0_1 w hr0_1 hG (by omega) (by omega) (HL.save_fits a0_0 l0_1 h1 h2 (HL.smB_len hb.2) (HL.smB_all hb.2))


/-! ### history_Load: function 26 -/
def history_Load.f (a0 : ByteArray) : Option (Int × List ByteArray × Int) := if a0.size ≤ 100000 then some (HL.loadP a0) else none
theorem history_Load.calls (a0 : ByteArray) (r1 : Int) (r2 : List ByteArray) (r3 : Int) (w : World) (h : history_Load.f a0 = some (r1, r2, r3)) (hG : Gl w) :
    Calls Tryd.prog 26 #[.string a0] w fun e w' => ∃ v1_ : Value, e = .returned (.tuple #[.agg #[.int .i64 r1, v1_], .int .i64 r3]) ∧ Kd.V Kd.string 9 w' w.heap.size (fun k_ => w.heap.size ≤ k_) v1_ r2 ∧ Below w.heap.size w w' := by
  unfold history_Load.f at h
  split at h
  case isFalse => cases h
  rename_i hb
  have := HL.load_walk a0 w hG hb
  rw [Option.some.inj h] at this
  exact this


end Go.Proofs.YtihibmcfklddeaaDoor.PS
