import Derived.Test.YthafbimhmfjcoaaDoorProg
import Derived.Below
import Derived.Deep.Draws
import Derived.Deep.AppendLies
import Derived.Maps.AppendAt
import Derived.OwnWalk
import Derived.Laws.BytesArg
import Derived.Laws.MakeOwn
import Derived.Laws.OwnMore
import Derived.Deep.OwnRows
import Derived.Tactics
import Derived.Lib.ConvBytes
import Derived.Laws.Slices
import Derived.WalkKit
import Derived.KernelRfl
import Derived.RowKit3
import Derived.Deep.LoopGhost
import Derived.Deep.QuietTactic
import Derived.BigQuiet
import Derived.WideLaws
import Derived.Deep.DeepCutAuto
import Derived.Deep.CutBlock
import Derived.Deep.RegionHeld3
import Derived.Laws.Rows
import Derived.Lib.AppendStr
import Derived.ArgAppend
import Derived.Laws.IdiomCopy
import Derived.OrdersHeld
import Derived.Laws.BitsLemmas
import Derived.RowKit
import Derived.Test.YthafbimhmfjcoaaDoorGl
import Derived.Test.YthafbimhmfjcoaaDoorJGiv
import Derived.Test.YthafbimhmfjcoaaDoorJE
import Derived.Test.YthafbimhmfjcoaaDoorWWords
import Derived.Test.YthafbimhmfjcoaaDoorWLast
import Derived.Test.YthafbimhmfjcoaaDoorWTab
import Derived.Test.YthafbimhmfjcoaaDoorWFour
import Derived.Test.YthafbimhmfjcoaaDoorWQPut
import Derived.Test.YthafbimhmfjcoaaDoorWApart
import Derived.Test.YthafbimhmfjcoaaDoorWArr
import Derived.Test.YthafbimhmfjcoaaDoorWZeros
import Derived.Test.YthafbimhmfjcoaaDoorWFoot
import Derived.Test.YthafbimhmfjcoaaDoorWKept
import Derived.Test.YthafbimhmfjcoaaDoorWShare
import Derived.Test.YthafbimhmfjcoaaDoorWN
import Derived.Test.YthafbimhmfjcoaaDoorWFootNe
import Derived.Test.YthafbimhmfjcoaaDoorWAt
import Derived.Test.YthafbimhmfjcoaaDoorWEqStruct
import Derived.Test.YthafbimhmfjcoaaDoorWRepsOne
import Derived.Test.YthafbimhmfjcoaaDoorWInv
import Derived.Test.YthafbimhmfjcoaaDoorWInvWords
import Derived.Test.YthafbimhmfjcoaaDoorWGuard
import Derived.Test.YthafbimhmfjcoaaDoorWNEv
import Derived.Test.YthafbimhmfjcoaaDoorWMore
-- Written by a program of this session's (wip/mkprint.py) out of the translation; the texts of functions that the program does not take are mine.
namespace Go.Proofs.YthafbimhmfjcoaaDoor.PS
open Go.Proofs.YthafbimhmfjcoaaDoor.PV
open Go.RowKit Go.Proofs.YthafbimhmfjcoaaDoorW.PrintWords Go.Proofs.YthafbimhmfjcoaaDoorW.PrintLast Go.Proofs.YthafbimhmfjcoaaDoorW.PrintMore
attribute [local go_sem] max2_int min2_int max_two min_two max_three min_three max_four min_four   -- for this text's walks alone
set_option linter.unusedVariables false
set_option linter.unusedSimpArgs false




end Go.Proofs.YthafbimhmfjcoaaDoor.PS
-- Written by a program of this session's (wip/mkprint.py) out of the translation; the texts of functions that the program does not take are mine.
namespace Go.Proofs.YthafbimhmfjcoaaDoor.PS
open Go.Proofs.YthafbimhmfjcoaaDoor.PV
open Go.RowKit Go.Proofs.YthafbimhmfjcoaaDoorW.PrintWords Go.Proofs.YthafbimhmfjcoaaDoorW.PrintLast Go.Proofs.YthafbimhmfjcoaaDoorW.PrintMore
attribute [local go_sem] max2_int min2_int max_two min_two max_three min_three max_four min_four   -- for this text's walks alone
set_option linter.unusedVariables false
set_option linter.unusedSimpArgs false

def jobs_Add.f (l0 : (List S35)) (a1 : Int) (l2 : List Int) (a3 : ByteArray) : Option ((List S35) × Int × Int) := if PE.smB l0 = true ∧ l2.length ≤ 1000 then some (JP.addP l0 a1 l2 a3) else none
theorem jobs_Add.calls (P0_ : Nat → Prop) (A0 : Option Addr) (c0 : Nat) (l0 : (List S35)) (a1 : Int) (A2 : Option Addr) (c2 : Nat) (l2 : List Int) (a3 : ByteArray) (r1 : (List S35)) (r2 : Int) (r3 : Int) (w : World) (hs0 : Kd.V k35 35 w w.heap.size (fun k_ => P0_ k_) (.slice A0 l0.length c0) l0) (hr2 : Kd.C (Kd.int .i64) w A2 l2.length l2) (hc2 : l2.length ≤ c2) (h : jobs_Add.f l0 a1 l2 a3 = some (r1, r2, r3)) (hG : Gl w) :
    Calls Tryd.prog 9 #[.slice A0 l0.length c0, .int .i64 a1, .slice A2 l2.length c2, .string a3] w fun e w' => ∃ v0_ : Value, e = .returned (.tuple #[v0_, .int .i64 r2, .int .i64 r3]) ∧ Kd.V k35 35 w' w.heap.size (fun k_ => (P0_ k_ ∨ w.heap.size ≤ k_)) v0_ r1 ∧ Below w.heap.size w w' := by
  unfold jobs_Add.f at h
  split at h
  case isFalse => cases h
  rename_i hb
  obtain ⟨k, hk⟩ := (PE.add_ev l0 a1 l2 a3 (PE.smB_SmL hb.1) (by omega)).get
  rw [← hk] at h
  exact PV.jobs_Add.calls k P0_ A0 c0 l0 a1 A2 c2 l2 a3 r1 r2 r3 w hs0 hr2 hc2 h hG


def jobs_Find.f (l0 : (List S35)) (a1 : ByteArray) : Option (Int × Int) := if PE.smB l0 = true ∧ a1.size ≤ 1000000 then some (JP.findP l0 a1) else none
theorem jobs_Find.calls (A0 : Option Addr) (c0 : Nat) (l0 : (List S35)) (a1 : ByteArray) (r1 : Int) (r2 : Int) (w : World) (hr0 : Kd.C k35 w A0 l0.length l0) (hc0 : l0.length ≤ c0) (h : jobs_Find.f l0 a1 = some (r1, r2)) (hG : Gl w) :
    Calls Tryd.prog 13 #[.slice A0 l0.length c0, .string a1] w fun e w' => e = .returned (.tuple #[.int .i64 r1, .int .i64 r2]) ∧ Below w.heap.size w w' := by
  unfold jobs_Find.f at h
  split at h
  case isFalse => cases h
  rename_i hb
  have h := Option.some.inj h
  have := PE.find_plain l0 A0 c0 a1 w hr0 hc0 hG hb.1 hb.2
  rw [h] at this
  exact this


def jobs_Line.f (l0 : (List S35)) (a1 : Int) (a2 : Bool) : Option ByteArray := if PE.smB l0 = true then some ⟨(JP.lineP l0 a1 a2).toArray⟩ else none
theorem jobs_Line.calls (A0 : Option Addr) (c0 : Nat) (l0 : (List S35)) (a1 : Int) (a2 : Bool) (r : ByteArray) (w : World) (hr0 : Kd.C k35 w A0 l0.length l0) (hc0 : l0.length ≤ c0) (h : jobs_Line.f l0 a1 a2 = some r) (hG : Gl w) :
    Calls Tryd.prog 14 #[.slice A0 l0.length c0, .int .i64 a1, .bool a2] w fun e w' => e = .returned (.string r) ∧ Below w.heap.size w w' := by
  unfold jobs_Line.f at h
  split at h
  case isFalse => cases h
  rename_i hb
  obtain ⟨k, hk⟩ := (PE.line_ev l0 a1 a2 (PE.smB_SmL hb) (PE.smB_Rg hb)).get
  rw [← hk] at h
  exact PV.jobs_Line.calls k A0 c0 l0 a1 a2 r w hr0 hc0 h hG


def jobs_Status.f (a0_0 : Int) (a0_1 : Int) (a0_2 : Int) (l0_3 : List Int) (l0_4 : List Int) (a0_5 : ByteArray) (a0_6 : Bool) : Option Int := if l0_4.length ≤ 100000 then some (JP.statP ⟨a0_0, a0_1, a0_2, l0_3, l0_4, a0_5, a0_6⟩) else none
theorem jobs_Status.calls (a0_0 : Int) (a0_1 : Int) (a0_2 : Int) (A0_3 : Option Addr) (c0_3 : Nat) (l0_3 : List Int) (A0_4 : Option Addr) (c0_4 : Nat) (l0_4 : List Int) (a0_5 : ByteArray) (a0_6 : Bool) (r : Int) (w : World) (hr0_3 : Kd.C (Kd.int .i64) w A0_3 l0_3.length l0_3) (hc0_3 : l0_3.length ≤ c0_3) (hr0_4 : Kd.C (Kd.int .i64) w A0_4 l0_4.length l0_4) (hc0_4 : l0_4.length ≤ c0_4) (h : jobs_Status.f a0_0 a0_1 a0_2 l0_3 l0_4 a0_5 a0_6 = some r) (hG : Gl w) :
    Calls Tryd.prog 16 #[.agg #[.int .i64 a0_0, .int .i64 a0_1, .int .i64 a0_2, .slice A0_3 l0_3.length c0_3, .slice A0_4 l0_4.length c0_4, .string a0_5, .bool a0_6]] w fun e w' => e = .returned (.int .i64 r) ∧ Below w.heap.size w w' := by
  unfold jobs_Status.f at h
  split at h
  case isFalse => cases h
  rename_i hb
  obtain ⟨k, hk⟩ := (PE.status_ev (⟨a0_0, a0_1, a0_2, l0_3, l0_4, a0_5, a0_6⟩ : JP.Jb) hb).get
  rw [← hk] at h
  exact PV.jobs_Status.calls k a0_0 a0_1 a0_2 A0_3 c0_3 l0_3 A0_4 c0_4 l0_4 a0_5 a0_6 r w hr0_3 hc0_3 hr0_4 hc0_4 h hG


def jobs_Current.f (l0 : (List S35)) : Option (Int × Int) := if PE.smB l0 = true then some (JP.cursP l0) else none
theorem jobs_Current.calls (A0 : Option Addr) (c0 : Nat) (l0 : (List S35)) (r1 : Int) (r2 : Int) (w : World) (hr0 : Kd.C k35 w A0 l0.length l0) (hc0 : l0.length ≤ c0) (h : jobs_Current.f l0 = some (r1, r2)) (hG : Gl w) :
    Calls Tryd.prog 23 #[.slice A0 l0.length c0] w fun e w' => e = .returned (.tuple #[.int .i64 r1, .int .i64 r2]) ∧ Below w.heap.size w w' := by
  unfold jobs_Current.f at h
  split at h
  case isFalse => cases h
  rename_i hb
  obtain ⟨k, hk⟩ := (PE.Current_ev l0 (PE.smB_SmL hb).1).get
  rw [← hk] at h
  exact PV.jobs_Current.calls k A0 c0 l0 r1 r2 w hr0 hc0 h hG


def jobs_Update.f (l0 : (List S35)) (a1 : Int) (a2 : Int) : Option ((List S35) × Bool) := if PE.smB l0 = true ∧ PE.leB l0 = true then some (JP.updP l0 a1 a2) else none
theorem jobs_Update.calls (P0_ : Nat → Prop) (A0 : Option Addr) (c0 : Nat) (l0 : (List S35)) (a1 : Int) (a2 : Int) (r1 : (List S35)) (r2 : Bool) (w : World) (hs0 : Kd.V k35 35 w w.heap.size (fun k_ => P0_ k_) (.slice A0 l0.length c0) l0) (h : jobs_Update.f l0 a1 a2 = some (r1, r2)) (hG : Gl w) :
    Calls Tryd.prog 24 #[.slice A0 l0.length c0, .int .i64 a1, .int .i64 a2] w fun e w' => ∃ v0_ : Value, e = .returned (.tuple #[v0_, .bool r2]) ∧ Kd.V k35 35 w' w.heap.size (fun k_ => (P0_ k_ ∨ w.heap.size ≤ k_)) v0_ r1 ∧ Below w.heap.size w w' := by
  unfold jobs_Update.f at h
  split at h
  case isFalse => cases h
  rename_i hb
  have h := Option.some.inj h
  have := PE.update_calls l0 a1 a2 (fun k_ => P0_ k_) A0 c0 w hs0 hG hb.1 hb.2
  rw [h] at this
  exact this


end Go.Proofs.YthafbimhmfjcoaaDoor.PS
-- Written by a program of this session's (wip/mkprint.py) out of the translation; the texts of functions that the program does not take are mine.
namespace Go.Proofs.YthafbimhmfjcoaaDoor.PS
open Go.Proofs.YthafbimhmfjcoaaDoor.PV
open Go.RowKit Go.Proofs.YthafbimhmfjcoaaDoorW.PrintWords Go.Proofs.YthafbimhmfjcoaaDoorW.PrintLast Go.Proofs.YthafbimhmfjcoaaDoorW.PrintMore
attribute [local go_sem] max2_int min2_int max_two min_two max_three min_three max_four min_four   -- for this text's walks alone
set_option linter.unusedVariables false
set_option linter.unusedSimpArgs false

def jobshellref36_Small.f (l0 : (List S35)) : Option Bool := some (JP.smallP l0)
theorem jobshellref36_Small.calls (A0 : Option Addr) (c0 : Nat) (l0 : (List S35)) (r : Bool) (w : World) (hr0 : Kd.C k35 w A0 l0.length l0) (hc0 : l0.length ≤ c0) (h : jobshellref36_Small.f l0 = some r) (hG : Gl w) :
    Calls Tryd.prog 15 #[.slice A0 l0.length c0] w fun e w' => e = .returned (.bool r) ∧ Drawn0 w w' := by
  unfold jobshellref36_Small.f at h
  obtain ⟨k, hk⟩ := (PE.small_ev l0).get
  rw [← hk] at h
  exact PV.jobshellref36_Small.calls k A0 c0 l0 r w hr0 hc0 h hG


def jobshellref36_Status.f (a0_0 : Int) (a0_1 : Int) (a0_2 : Int) (l0_3 : List Int) (l0_4 : List Int) (a0_5 : ByteArray) (a0_6 : Bool) : Option Int := if l0_4.length ≤ 100000 then some (JP.statP ⟨a0_0, a0_1, a0_2, l0_3, l0_4, a0_5, a0_6⟩) else none
theorem jobshellref36_Status.calls (a0_0 : Int) (a0_1 : Int) (a0_2 : Int) (A0_3 : Option Addr) (c0_3 : Nat) (l0_3 : List Int) (A0_4 : Option Addr) (c0_4 : Nat) (l0_4 : List Int) (a0_5 : ByteArray) (a0_6 : Bool) (r : Int) (w : World) (hr0_3 : Kd.C (Kd.int .i64) w A0_3 l0_3.length l0_3) (hc0_3 : l0_3.length ≤ c0_3) (hr0_4 : Kd.C (Kd.int .i64) w A0_4 l0_4.length l0_4) (hc0_4 : l0_4.length ≤ c0_4) (h : jobshellref36_Status.f a0_0 a0_1 a0_2 l0_3 l0_4 a0_5 a0_6 = some r) (hG : Gl w) :
    Calls Tryd.prog 17 #[.agg #[.int .i64 a0_0, .int .i64 a0_1, .int .i64 a0_2, .slice A0_3 l0_3.length c0_3, .slice A0_4 l0_4.length c0_4, .string a0_5, .bool a0_6]] w fun e w' => e = .returned (.int .i64 r) ∧ Below w.heap.size w w' := by
  unfold jobshellref36_Status.f at h
  split at h
  case isFalse => cases h
  rename_i hb
  obtain ⟨k, hk⟩ := (PE.rstatus_ev (⟨a0_0, a0_1, a0_2, l0_3, l0_4, a0_5, a0_6⟩ : JP.Jb) hb).get
  rw [← hk] at h
  exact PV.jobshellref36_Status.calls k a0_0 a0_1 a0_2 A0_3 c0_3 l0_3 A0_4 c0_4 l0_4 a0_5 a0_6 r w hr0_3 hc0_3 hr0_4 hc0_4 h hG


def jobs_Valid.f (l0 : (List S35)) : Option Int := if PE.szJ l0 = true then some (JP.validP l0) else none
theorem jobs_Valid.calls (A0 : Option Addr) (c0 : Nat) (l0 : (List S35)) (r : Int) (w : World) (hr0 : Kd.C k35 w A0 l0.length l0) (hc0 : l0.length ≤ c0) (h : jobs_Valid.f l0 = some r) (hG : Gl w) :
    Calls Tryd.prog 18 #[.slice A0 l0.length c0] w fun e w' => e = .returned (.int .i64 r) ∧ Below w.heap.size w w' := by
  unfold jobs_Valid.f at h
  split at h
  case isFalse => cases h
  rename_i hb
  obtain ⟨k, hk⟩ := (PE.Valid_ev l0 (PE.szJ_SmL hb)).get
  rw [← hk] at h
  exact PV.jobs_Valid.calls k A0 c0 l0 r w hr0 hc0 h hG


def jobshellref36_Valid.f (l0 : (List S35)) : Option Int := if PE.szJ l0 = true then some (JP.validP l0) else none
theorem jobshellref36_Valid.calls (A0 : Option Addr) (c0 : Nat) (l0 : (List S35)) (r : Int) (w : World) (hr0 : Kd.C k35 w A0 l0.length l0) (hc0 : l0.length ≤ c0) (h : jobshellref36_Valid.f l0 = some r) (hG : Gl w) :
    Calls Tryd.prog 19 #[.slice A0 l0.length c0] w fun e w' => e = .returned (.int .i64 r) ∧ Below w.heap.size w w' := by
  unfold jobshellref36_Valid.f at h
  split at h
  case isFalse => cases h
  rename_i hb
  obtain ⟨k, hk⟩ := (PE.rValid_ev l0 (PE.szJ_SmL hb)).get
  rw [← hk] at h
  exact PV.jobshellref36_Valid.calls k A0 c0 l0 r w hr0 hc0 h hG


end Go.Proofs.YthafbimhmfjcoaaDoor.PS
