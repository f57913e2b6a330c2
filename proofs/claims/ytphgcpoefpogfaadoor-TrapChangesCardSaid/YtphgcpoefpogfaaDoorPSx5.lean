-- Written by a program of this session's (wip/mkprint.py) out of the translation; the texts of functions that the program does not take are mine.
import Derived.Test.YtphgcpoefpogfaaDoorPSx0
import Derived.Test.YtphgcpoefpogfaaDoorPSx2
import Derived.Test.YtphgcpoefpogfaaDoorPSx3
import Derived.Test.YtphgcpoefpogfaaDoorPSx4
namespace Go.Proofs.YtphgcpoefpogfaaDoor.PS
open Go.RowKit Go.Proofs.YtphgcpoefpogfaaDoorW.PrintWords Go.Proofs.YtphgcpoefpogfaaDoorW.PrintLast Go.Proofs.YtphgcpoefpogfaaDoorW.PrintMore
attribute [local go_sem] max2_int min2_int max_two min_two max_three min_three max_four min_four   -- for this text's walks alone
set_option linter.unusedVariables false
set_option linter.unusedSimpArgs false

/-! ### jobshelllaw34_awake: function 10 -/
def jobshelllaw34_awake.f (k : Nat)  : Option (Bool) := (trap_Signal.f k (⟨#[83, 73, 71, 73, 78, 84]⟩ : ByteArray)).bind fun bt149 => ((trap_Signal.f k (⟨#[69, 88, 73, 84]⟩ : ByteArray)).bind fun bt151 => ((trap_Signal.f k (⟨#[83, 73, 71, 50]⟩ : ByteArray)).bind fun bt153 => ((trap_Set.f k ([] : List (S30)) 2 (⟨#[101, 99, 104, 111, 32, 104, 105]⟩ : ByteArray)).bind fun t155 => ((trap_Set.f k t155 0 (⟨#[]⟩ : ByteArray)).bind fun t158 => ((trap_Show.f k t158).bind fun t161 => ((trap_Next.f (([(⟨2, (⟨#[97]⟩ : ByteArray)⟩ : S30), (⟨15, (⟨#[98]⟩ : ByteArray)⟩ : S30)] : List (S30))) (([1, 15, 2] : List Int))).bind fun bt170 => ((trap_Requests.f k ([] : List (S30)) (([(⟨2, (⟨#[97]⟩ : ByteArray)⟩ : S30), (⟨15, (⟨#[]⟩ : ByteArray)⟩ : S30)] : List (S30))) false).bind fun t180 => ((trap_Requests.f k ([] : List (S30)) (([(⟨2, (⟨#[97]⟩ : ByteArray)⟩ : S30), (⟨15, (⟨#[]⟩ : ByteArray)⟩ : S30)] : List (S30))) true).bind fun t186 => (if (t161.length : Int) = 2 then (if (bt170.2.2.1.length : Int) = 1 then (if (t180.length : Int) = 2 then (if (t186.length : Int) = 0 then (if bt149.1 = 2 then (if bt149.2 = true then (if bt151.1 = 0 then (if bt151.2 = true then (if bt153.2 = true then (some false) else (if 0 < (t161.length : Int) then (if (rdOf ByteArray.empty t161 0).toList = ([116, 114, 97, 112, 32, 45, 45, 32, 39, 39, 32, 69, 88, 73, 84] : List UInt8) then (if 1 < (t161.length : Int) then (if (rdOf ByteArray.empty t161 1).toList = ([116, 114, 97, 112, 32, 45, 45, 32, 39, 101, 99, 104, 111, 32, 104, 105, 39, 32, 73, 78, 84] : List UInt8) then (if bt170.2.1.toList = ([97] : List UInt8) then (if 0 < (bt170.2.2.1.length : Int) then (if (rd bt170.2.2.1 0) = 15 then (if bt170.2.2.2 = true then (if 0 < (t180.length : Int) then (if ((rd_T40 t180 0).f0) = 14 then (if ((rd_T40 t180 0).f5) = 2 then (if ((rd_T40 t180 0).f6) = 2 then (if 1 < (t180.length : Int) then (if ((rd_T40 t180 1).f5) = 15 then (some (((rd_T40 t180 1).f6) == 1)) else (some false)) else (none)) else (some false)) else (some false)) else (some false)) else (none)) else (some false)) else (some false)) else (none)) else (some false)) else (some false)) else (none)) else (some false)) else (none))) else (some false)) else (some false)) else (some false)) else (some false)) else (some false)) else (some false)) else (some false)) else (some false))))))))))
theorem jobshelllaw34_awake.mono : ∀ k, LeO (jobshelllaw34_awake.f k ) (jobshelllaw34_awake.f (k + 1) ) := by
  intro  k
  unfold jobshelllaw34_awake.f
  repeat' first
      | (with_reducible exact trap_Requests.mono _ _ _ _)
      | (with_reducible exact trap_Set.mono _ _ _ _)
      | (with_reducible exact trap_Show.mono _ _)
      | (with_reducible exact trap_Signal.mono _ _)
      | (with_reducible exact LeO.refl _)
      | (with_reducible exact LeO.none _)
      | (with_reducible refine LeO.ite ?_ ?_)
      | (with_reducible refine LeO.bind ?_ (fun _ => ?_))
      | exact trap_Requests.mono _ _ _ _
      | exact trap_Set.mono _ _ _ _
      | exact trap_Show.mono _ _
      | exact trap_Signal.mono _ _
      | exact LeO.none _
      | refine LeO.ite ?_ ?_
      | refine LeO.bind ?_ (fun _ => ?_)
set_option maxHeartbeats 8000000 in
set_option maxRecDepth 100000 in
theorem jobshelllaw34_awake.calls_true (k : Nat)  (r : Bool) (w : World) (h : jobshelllaw34_awake.f k  = some r) (hT : r = true) :
    Calls Tryd.prog 10 #[] w fun e w' => e = .returned (.bool r) ∧ Below w.heap.size w w' := by
  have HT := Aside0.mk hT
  clear hT
  have hu30 := Tryd.underlying30
  have HB := Aside0.mk (Below.refl w.heap.size w)
  have H : ((trap_Signal.f k (⟨#[83, 73, 71, 73, 78, 84]⟩ : ByteArray)).bind fun bt149 => ((trap_Signal.f k (⟨#[69, 88, 73, 84]⟩ : ByteArray)).bind fun bt151 => ((trap_Signal.f k (⟨#[83, 73, 71, 50]⟩ : ByteArray)).bind fun bt153 => ((trap_Set.f k ([] : List (S30)) 2 (⟨#[101, 99, 104, 111, 32, 104, 105]⟩ : ByteArray)).bind fun t155 => ((trap_Set.f k t155 0 (⟨#[]⟩ : ByteArray)).bind fun t158 => ((trap_Show.f k t158).bind fun t161 => ((trap_Next.f (([(⟨2, (⟨#[97]⟩ : ByteArray)⟩ : S30), (⟨15, (⟨#[98]⟩ : ByteArray)⟩ : S30)] : List (S30))) (([1, 15, 2] : List Int))).bind fun bt170 => ((trap_Requests.f k ([] : List (S30)) (([(⟨2, (⟨#[97]⟩ : ByteArray)⟩ : S30), (⟨15, (⟨#[]⟩ : ByteArray)⟩ : S30)] : List (S30))) false).bind fun t180 => ((trap_Requests.f k ([] : List (S30)) (([(⟨2, (⟨#[97]⟩ : ByteArray)⟩ : S30), (⟨15, (⟨#[]⟩ : ByteArray)⟩ : S30)] : List (S30))) true).bind fun t186 => (if (t161.length : Int) = 2 then (if (bt170.2.2.1.length : Int) = 1 then (if (t180.length : Int) = 2 then (if (t186.length : Int) = 0 then (if bt149.1 = 2 then (if bt149.2 = true then (if bt151.1 = 0 then (if bt151.2 = true then (if bt153.2 = true then (some false) else (if 0 < (t161.length : Int) then (if (rdOf ByteArray.empty t161 0).toList = ([116, 114, 97, 112, 32, 45, 45, 32, 39, 39, 32, 69, 88, 73, 84] : List UInt8) then (if 1 < (t161.length : Int) then (if (rdOf ByteArray.empty t161 1).toList = ([116, 114, 97, 112, 32, 45, 45, 32, 39, 101, 99, 104, 111, 32, 104, 105, 39, 32, 73, 78, 84] : List UInt8) then (if bt170.2.1.toList = ([97] : List UInt8) then (if 0 < (bt170.2.2.1.length : Int) then (if (rd bt170.2.2.1 0) = 15 then (if bt170.2.2.2 = true then (if 0 < (t180.length : Int) then (if ((rd_T40 t180 0).f0) = 14 then (if ((rd_T40 t180 0).f5) = 2 then (if ((rd_T40 t180 0).f6) = 2 then (if 1 < (t180.length : Int) then (if ((rd_T40 t180 1).f5) = 15 then (some (((rd_T40 t180 1).f6) == 1)) else (some false)) else (none)) else (some false)) else (some false)) else (some false)) else (none)) else (some false)) else (some false)) else (none)) else (some false)) else (some false)) else (none)) else (some false)) else (none))) else (some false)) else (some false)) else (some false)) else (some false)) else (some false)) else (some false)) else (some false)) else (some false))))))))))) = some r := h
  clear h
  replace H := Option.bind_eq_some_iff.mp H
  obtain ⟨⟨t149, t150⟩, A10, H⟩ := H
  replace H : ((trap_Signal.f k (⟨#[69, 88, 73, 84]⟩ : ByteArray)).bind fun bt151 => ((trap_Signal.f k (⟨#[83, 73, 71, 50]⟩ : ByteArray)).bind fun bt153 => ((trap_Set.f k ([] : List (S30)) 2 (⟨#[101, 99, 104, 111, 32, 104, 105]⟩ : ByteArray)).bind fun t155 => ((trap_Set.f k t155 0 (⟨#[]⟩ : ByteArray)).bind fun t158 => ((trap_Show.f k t158).bind fun t161 => ((trap_Next.f (([(⟨2, (⟨#[97]⟩ : ByteArray)⟩ : S30), (⟨15, (⟨#[98]⟩ : ByteArray)⟩ : S30)] : List (S30))) (([1, 15, 2] : List Int))).bind fun bt170 => ((trap_Requests.f k ([] : List (S30)) (([(⟨2, (⟨#[97]⟩ : ByteArray)⟩ : S30), (⟨15, (⟨#[]⟩ : ByteArray)⟩ : S30)] : List (S30))) false).bind fun t180 => ((trap_Requests.f k ([] : List (S30)) (([(⟨2, (⟨#[97]⟩ : ByteArray)⟩ : S30), (⟨15, (⟨#[]⟩ : ByteArray)⟩ : S30)] : List (S30))) true).bind fun t186 => (if (t161.length : Int) = 2 then (if (bt170.2.2.1.length : Int) = 1 then (if (t180.length : Int) = 2 then (if (t186.length : Int) = 0 then (if t149 = 2 then (if t150 = true then (if bt151.1 = 0 then (if bt151.2 = true then (if bt153.2 = true then (some false) else (if 0 < (t161.length : Int) then (if (rdOf ByteArray.empty t161 0).toList = ([116, 114, 97, 112, 32, 45, 45, 32, 39, 39, 32, 69, 88, 73, 84] : List UInt8) then (if 1 < (t161.length : Int) then (if (rdOf ByteArray.empty t161 1).toList = ([116, 114, 97, 112, 32, 45, 45, 32, 39, 101, 99, 104, 111, 32, 104, 105, 39, 32, 73, 78, 84] : List UInt8) then (if bt170.2.1.toList = ([97] : List UInt8) then (if 0 < (bt170.2.2.1.length : Int) then (if (rd bt170.2.2.1 0) = 15 then (if bt170.2.2.2 = true then (if 0 < (t180.length : Int) then (if ((rd_T40 t180 0).f0) = 14 then (if ((rd_T40 t180 0).f5) = 2 then (if ((rd_T40 t180 0).f6) = 2 then (if 1 < (t180.length : Int) then (if ((rd_T40 t180 1).f5) = 15 then (some (((rd_T40 t180 1).f6) == 1)) else (some false)) else (none)) else (some false)) else (some false)) else (some false)) else (none)) else (some false)) else (some false)) else (none)) else (some false)) else (some false)) else (none)) else (some false)) else (none))) else (some false)) else (some false)) else (some false)) else (some false)) else (some false)) else (some false)) else (some false)) else (some false)))))))))) = some r := H
  have A1 := Aside0.mk A10
  clear A10
  replace H := Option.bind_eq_some_iff.mp H
  obtain ⟨⟨t151, t152⟩, A20, H⟩ := H
  replace H : ((trap_Signal.f k (⟨#[83, 73, 71, 50]⟩ : ByteArray)).bind fun bt153 => ((trap_Set.f k ([] : List (S30)) 2 (⟨#[101, 99, 104, 111, 32, 104, 105]⟩ : ByteArray)).bind fun t155 => ((trap_Set.f k t155 0 (⟨#[]⟩ : ByteArray)).bind fun t158 => ((trap_Show.f k t158).bind fun t161 => ((trap_Next.f (([(⟨2, (⟨#[97]⟩ : ByteArray)⟩ : S30), (⟨15, (⟨#[98]⟩ : ByteArray)⟩ : S30)] : List (S30))) (([1, 15, 2] : List Int))).bind fun bt170 => ((trap_Requests.f k ([] : List (S30)) (([(⟨2, (⟨#[97]⟩ : ByteArray)⟩ : S30), (⟨15, (⟨#[]⟩ : ByteArray)⟩ : S30)] : List (S30))) false).bind fun t180 => ((trap_Requests.f k ([] : List (S30)) (([(⟨2, (⟨#[97]⟩ : ByteArray)⟩ : S30), (⟨15, (⟨#[]⟩ : ByteArray)⟩ : S30)] : List (S30))) true).bind fun t186 => (if (t161.length : Int) = 2 then (if (bt170.2.2.1.length : Int) = 1 then (if (t180.length : Int) = 2 then (if (t186.length : Int) = 0 then (if t149 = 2 then (if t150 = true then (if t151 = 0 then (if t152 = true then (if bt153.2 = true then (some false) else (if 0 < (t161.length : Int) then (if (rdOf ByteArray.empty t161 0).toList = ([116, 114, 97, 112, 32, 45, 45, 32, 39, 39, 32, 69, 88, 73, 84] : List UInt8) then (if 1 < (t161.length : Int) then (if (rdOf ByteArray.empty t161 1).toList = ([116, 114, 97, 112, 32, 45, 45, 32, 39, 101, 99, 104, 111, 32, 104, 105, 39, 32, 73, 78, 84] : List UInt8) then (if bt170.2.1.toList = ([97] : List UInt8) then (if 0 < (bt170.2.2.1.length : Int) then (if (rd bt170.2.2.1 0) = 15 then (if bt170.2.2.2 = true then (if 0 < (t180.length : Int) then (if ((rd_T40 t180 0).f0) = 14 then (if ((rd_T40 t180 0).f5) = 2 then (if ((rd_T40 t180 0).f6) = 2 then (if 1 < (t180.length : Int) then (if ((rd_T40 t180 1).f5) = 15 then (some (((rd_T40 t180 1).f6) == 1)) else (some false)) else (none)) else (some false)) else (some false)) else (some false)) else (none)) else (some false)) else (some false)) else (none)) else (some false)) else (some false)) else (none)) else (some false)) else (none))) else (some false)) else (some false)) else (some false)) else (some false)) else (some false)) else (some false)) else (some false)) else (some false))))))))) = some r := H
  have A2 := Aside0.mk A20
  clear A20
  replace H := Option.bind_eq_some_iff.mp H
  obtain ⟨⟨t153, t154⟩, A30, H⟩ := H
  replace H : ((trap_Set.f k ([] : List (S30)) 2 (⟨#[101, 99, 104, 111, 32, 104, 105]⟩ : ByteArray)).bind fun t155 => ((trap_Set.f k t155 0 (⟨#[]⟩ : ByteArray)).bind fun t158 => ((trap_Show.f k t158).bind fun t161 => ((trap_Next.f (([(⟨2, (⟨#[97]⟩ : ByteArray)⟩ : S30), (⟨15, (⟨#[98]⟩ : ByteArray)⟩ : S30)] : List (S30))) (([1, 15, 2] : List Int))).bind fun bt170 => ((trap_Requests.f k ([] : List (S30)) (([(⟨2, (⟨#[97]⟩ : ByteArray)⟩ : S30), (⟨15, (⟨#[]⟩ : ByteArray)⟩ : S30)] : List (S30))) false).bind fun t180 => ((trap_Requests.f k ([] : List (S30)) (([(⟨2, (⟨#[97]⟩ : ByteArray)⟩ : S30), (⟨15, (⟨#[]⟩ : ByteArray)⟩ : S30)] : List (S30))) true).bind fun t186 => (if (t161.length : Int) = 2 then (if (bt170.2.2.1.length : Int) = 1 then (if (t180.length : Int) = 2 then (if (t186.length : Int) = 0 then (if t149 = 2 then (if t150 = true then (if t151 = 0 then (if t152 = true then (if t154 = true then (some false) else (if 0 < (t161.length : Int) then (if (rdOf ByteArray.empty t161 0).toList = ([116, 114, 97, 112, 32, 45, 45, 32, 39, 39, 32, 69, 88, 73, 84] : List UInt8) then (if 1 < (t161.length : Int) then (if (rdOf ByteArray.empty t161 1).toList = ([116, 114, 97, 112, 32, 45, 45, 32, 39, 101, 99, 104, 111, 32, 104, 105, 39, 32, 73, 78, 84] : List UInt8) then (if bt170.2.1.toList = ([97] : List UInt8) then (if 0 < (bt170.2.2.1.length : Int) then (if (rd bt170.2.2.1 0) = 15 then (if bt170.2.2.2 = true then (if 0 < (t180.length : Int) then (if ((rd_T40 t180 0).f0) = 14 then (if ((rd_T40 t180 0).f5) = 2 then (if ((rd_T40 t180 0).f6) = 2 then (if 1 < (t180.length : Int) then (if ((rd_T40 t180 1).f5) = 15 then (some (((rd_T40 t180 1).f6) == 1)) else (some false)) else (none)) else (some false)) else (some false)) else (some false)) else (none)) else (some false)) else (some false)) else (none)) else (some false)) else (some false)) else (none)) else (some false)) else (none))) else (some false)) else (some false)) else (some false)) else (some false)) else (some false)) else (some false)) else (some false)) else (some false)))))))) = some r := H
  have A3 := Aside0.mk A30
  clear A30
  replace H := Option.bind_eq_some_iff.mp H
  obtain ⟨t155, A40, H⟩ := H
  replace H : ((trap_Set.f k t155 0 (⟨#[]⟩ : ByteArray)).bind fun t158 => ((trap_Show.f k t158).bind fun t161 => ((trap_Next.f (([(⟨2, (⟨#[97]⟩ : ByteArray)⟩ : S30), (⟨15, (⟨#[98]⟩ : ByteArray)⟩ : S30)] : List (S30))) (([1, 15, 2] : List Int))).bind fun bt170 => ((trap_Requests.f k ([] : List (S30)) (([(⟨2, (⟨#[97]⟩ : ByteArray)⟩ : S30), (⟨15, (⟨#[]⟩ : ByteArray)⟩ : S30)] : List (S30))) false).bind fun t180 => ((trap_Requests.f k ([] : List (S30)) (([(⟨2, (⟨#[97]⟩ : ByteArray)⟩ : S30), (⟨15, (⟨#[]⟩ : ByteArray)⟩ : S30)] : List (S30))) true).bind fun t186 => (if (t161.length : Int) = 2 then (if (bt170.2.2.1.length : Int) = 1 then (if (t180.length : Int) = 2 then (if (t186.length : Int) = 0 then (if t149 = 2 then (if t150 = true then (if t151 = 0 then (if t152 = true then (if t154 = true then (some false) else (if 0 < (t161.length : Int) then (if (rdOf ByteArray.empty t161 0).toList = ([116, 114, 97, 112, 32, 45, 45, 32, 39, 39, 32, 69, 88, 73, 84] : List UInt8) then (if 1 < (t161.length : Int) then (if (rdOf ByteArray.empty t161 1).toList = ([116, 114, 97, 112, 32, 45, 45, 32, 39, 101, 99, 104, 111, 32, 104, 105, 39, 32, 73, 78, 84] : List UInt8) then (if bt170.2.1.toList = ([97] : List UInt8) then (if 0 < (bt170.2.2.1.length : Int) then (if (rd bt170.2.2.1 0) = 15 then (if bt170.2.2.2 = true then (if 0 < (t180.length : Int) then (if ((rd_T40 t180 0).f0) = 14 then (if ((rd_T40 t180 0).f5) = 2 then (if ((rd_T40 t180 0).f6) = 2 then (if 1 < (t180.length : Int) then (if ((rd_T40 t180 1).f5) = 15 then (some (((rd_T40 t180 1).f6) == 1)) else (some false)) else (none)) else (some false)) else (some false)) else (some false)) else (none)) else (some false)) else (some false)) else (none)) else (some false)) else (some false)) else (none)) else (some false)) else (none))) else (some false)) else (some false)) else (some false)) else (some false)) else (some false)) else (some false)) else (some false)) else (some false))))))) = some r := H
  have A4 := Aside0.mk A40
  clear A40
  replace H := Option.bind_eq_some_iff.mp H
  obtain ⟨t158, A50, H⟩ := H
  replace H : ((trap_Show.f k t158).bind fun t161 => ((trap_Next.f (([(⟨2, (⟨#[97]⟩ : ByteArray)⟩ : S30), (⟨15, (⟨#[98]⟩ : ByteArray)⟩ : S30)] : List (S30))) (([1, 15, 2] : List Int))).bind fun bt170 => ((trap_Requests.f k ([] : List (S30)) (([(⟨2, (⟨#[97]⟩ : ByteArray)⟩ : S30), (⟨15, (⟨#[]⟩ : ByteArray)⟩ : S30)] : List (S30))) false).bind fun t180 => ((trap_Requests.f k ([] : List (S30)) (([(⟨2, (⟨#[97]⟩ : ByteArray)⟩ : S30), (⟨15, (⟨#[]⟩ : ByteArray)⟩ : S30)] : List (S30))) true).bind fun t186 => (if (t161.length : Int) = 2 then (if (bt170.2.2.1.length : Int) = 1 then (if (t180.length : Int) = 2 then (if (t186.length : Int) = 0 then (if t149 = 2 then (if t150 = true then (if t151 = 0 then (if t152 = true then (if t154 = true then (some false) else (if 0 < (t161.length : Int) then (if (rdOf ByteArray.empty t161 0).toList = ([116, 114, 97, 112, 32, 45, 45, 32, 39, 39, 32, 69, 88, 73, 84] : List UInt8) then (if 1 < (t161.length : Int) then (if (rdOf ByteArray.empty t161 1).toList = ([116, 114, 97, 112, 32, 45, 45, 32, 39, 101, 99, 104, 111, 32, 104, 105, 39, 32, 73, 78, 84] : List UInt8) then (if bt170.2.1.toList = ([97] : List UInt8) then (if 0 < (bt170.2.2.1.length : Int) then (if (rd bt170.2.2.1 0) = 15 then (if bt170.2.2.2 = true then (if 0 < (t180.length : Int) then (if ((rd_T40 t180 0).f0) = 14 then (if ((rd_T40 t180 0).f5) = 2 then (if ((rd_T40 t180 0).f6) = 2 then (if 1 < (t180.length : Int) then (if ((rd_T40 t180 1).f5) = 15 then (some (((rd_T40 t180 1).f6) == 1)) else (some false)) else (none)) else (some false)) else (some false)) else (some false)) else (none)) else (some false)) else (some false)) else (none)) else (some false)) else (some false)) else (none)) else (some false)) else (none))) else (some false)) else (some false)) else (some false)) else (some false)) else (some false)) else (some false)) else (some false)) else (some false)))))) = some r := H
  have A5 := Aside0.mk A50
  clear A50
  replace H := Option.bind_eq_some_iff.mp H
  obtain ⟨t161, A60, H⟩ := H
  replace H : ((trap_Next.f (([(⟨2, (⟨#[97]⟩ : ByteArray)⟩ : S30), (⟨15, (⟨#[98]⟩ : ByteArray)⟩ : S30)] : List (S30))) (([1, 15, 2] : List Int))).bind fun bt170 => ((trap_Requests.f k ([] : List (S30)) (([(⟨2, (⟨#[97]⟩ : ByteArray)⟩ : S30), (⟨15, (⟨#[]⟩ : ByteArray)⟩ : S30)] : List (S30))) false).bind fun t180 => ((trap_Requests.f k ([] : List (S30)) (([(⟨2, (⟨#[97]⟩ : ByteArray)⟩ : S30), (⟨15, (⟨#[]⟩ : ByteArray)⟩ : S30)] : List (S30))) true).bind fun t186 => (if (t161.length : Int) = 2 then (if (bt170.2.2.1.length : Int) = 1 then (if (t180.length : Int) = 2 then (if (t186.length : Int) = 0 then (if t149 = 2 then (if t150 = true then (if t151 = 0 then (if t152 = true then (if t154 = true then (some false) else (if 0 < (t161.length : Int) then (if (rdOf ByteArray.empty t161 0).toList = ([116, 114, 97, 112, 32, 45, 45, 32, 39, 39, 32, 69, 88, 73, 84] : List UInt8) then (if 1 < (t161.length : Int) then (if (rdOf ByteArray.empty t161 1).toList = ([116, 114, 97, 112, 32, 45, 45, 32, 39, 101, 99, 104, 111, 32, 104, 105, 39, 32, 73, 78, 84] : List UInt8) then (if bt170.2.1.toList = ([97] : List UInt8) then (if 0 < (bt170.2.2.1.length : Int) then (if (rd bt170.2.2.1 0) = 15 then (if bt170.2.2.2 = true then (if 0 < (t180.length : Int) then (if ((rd_T40 t180 0).f0) = 14 then (if ((rd_T40 t180 0).f5) = 2 then (if ((rd_T40 t180 0).f6) = 2 then (if 1 < (t180.length : Int) then (if ((rd_T40 t180 1).f5) = 15 then (some (((rd_T40 t180 1).f6) == 1)) else (some false)) else (none)) else (some false)) else (some false)) else (some false)) else (none)) else (some false)) else (some false)) else (none)) else (some false)) else (some false)) else (none)) else (some false)) else (none))) else (some false)) else (some false)) else (some false)) else (some false)) else (some false)) else (some false)) else (some false)) else (some false))))) = some r := H
  have A6 := Aside0.mk A60
  clear A60
  obtain ⟨y164, hy164⟩ : ∃ y_ : List (S30), y_ = (([(⟨2, (⟨#[97]⟩ : ByteArray)⟩ : S30), (⟨15, (⟨#[98]⟩ : ByteArray)⟩ : S30)] : List (S30))) := ⟨_, rfl⟩
  replace H : ((trap_Next.f y164 (([1, 15, 2] : List Int))).bind fun bt170 => ((trap_Requests.f k ([] : List (S30)) (([(⟨2, (⟨#[97]⟩ : ByteArray)⟩ : S30), (⟨15, (⟨#[]⟩ : ByteArray)⟩ : S30)] : List (S30))) false).bind fun t180 => ((trap_Requests.f k ([] : List (S30)) (([(⟨2, (⟨#[97]⟩ : ByteArray)⟩ : S30), (⟨15, (⟨#[]⟩ : ByteArray)⟩ : S30)] : List (S30))) true).bind fun t186 => (if (t161.length : Int) = 2 then (if (bt170.2.2.1.length : Int) = 1 then (if (t180.length : Int) = 2 then (if (t186.length : Int) = 0 then (if t149 = 2 then (if t150 = true then (if t151 = 0 then (if t152 = true then (if t154 = true then (some false) else (if 0 < (t161.length : Int) then (if (rdOf ByteArray.empty t161 0).toList = ([116, 114, 97, 112, 32, 45, 45, 32, 39, 39, 32, 69, 88, 73, 84] : List UInt8) then (if 1 < (t161.length : Int) then (if (rdOf ByteArray.empty t161 1).toList = ([116, 114, 97, 112, 32, 45, 45, 32, 39, 101, 99, 104, 111, 32, 104, 105, 39, 32, 73, 78, 84] : List UInt8) then (if bt170.2.1.toList = ([97] : List UInt8) then (if 0 < (bt170.2.2.1.length : Int) then (if (rd bt170.2.2.1 0) = 15 then (if bt170.2.2.2 = true then (if 0 < (t180.length : Int) then (if ((rd_T40 t180 0).f0) = 14 then (if ((rd_T40 t180 0).f5) = 2 then (if ((rd_T40 t180 0).f6) = 2 then (if 1 < (t180.length : Int) then (if ((rd_T40 t180 1).f5) = 15 then (some (((rd_T40 t180 1).f6) == 1)) else (some false)) else (none)) else (some false)) else (some false)) else (some false)) else (none)) else (some false)) else (some false)) else (none)) else (some false)) else (some false)) else (none)) else (some false)) else (none))) else (some false)) else (some false)) else (some false)) else (some false)) else (some false)) else (some false)) else (some false)) else (some false))))) = some r := by first | (rw [hy164]; with_reducible exact H) | (have H2_ := (Option.bind_some _ _).symm.trans H; rw [hy164]; with_reducible exact H2_) | (have H2_ := (Option.bind_some _ _).symm.trans H; with_reducible exact H2_) | with_reducible exact H | (rw [hy164]; exact H) | exact H
  have Ny164 := Aside0.mk hy164
  clear hy164
  obtain ⟨y167, hy167⟩ : ∃ y_ : List Int, y_ = (([1, 15, 2] : List Int)) := ⟨_, rfl⟩
  replace H : ((trap_Next.f y164 y167).bind fun bt170 => ((trap_Requests.f k ([] : List (S30)) (([(⟨2, (⟨#[97]⟩ : ByteArray)⟩ : S30), (⟨15, (⟨#[]⟩ : ByteArray)⟩ : S30)] : List (S30))) false).bind fun t180 => ((trap_Requests.f k ([] : List (S30)) (([(⟨2, (⟨#[97]⟩ : ByteArray)⟩ : S30), (⟨15, (⟨#[]⟩ : ByteArray)⟩ : S30)] : List (S30))) true).bind fun t186 => (if (t161.length : Int) = 2 then (if (bt170.2.2.1.length : Int) = 1 then (if (t180.length : Int) = 2 then (if (t186.length : Int) = 0 then (if t149 = 2 then (if t150 = true then (if t151 = 0 then (if t152 = true then (if t154 = true then (some false) else (if 0 < (t161.length : Int) then (if (rdOf ByteArray.empty t161 0).toList = ([116, 114, 97, 112, 32, 45, 45, 32, 39, 39, 32, 69, 88, 73, 84] : List UInt8) then (if 1 < (t161.length : Int) then (if (rdOf ByteArray.empty t161 1).toList = ([116, 114, 97, 112, 32, 45, 45, 32, 39, 101, 99, 104, 111, 32, 104, 105, 39, 32, 73, 78, 84] : List UInt8) then (if bt170.2.1.toList = ([97] : List UInt8) then (if 0 < (bt170.2.2.1.length : Int) then (if (rd bt170.2.2.1 0) = 15 then (if bt170.2.2.2 = true then (if 0 < (t180.length : Int) then (if ((rd_T40 t180 0).f0) = 14 then (if ((rd_T40 t180 0).f5) = 2 then (if ((rd_T40 t180 0).f6) = 2 then (if 1 < (t180.length : Int) then (if ((rd_T40 t180 1).f5) = 15 then (some (((rd_T40 t180 1).f6) == 1)) else (some false)) else (none)) else (some false)) else (some false)) else (some false)) else (none)) else (some false)) else (some false)) else (none)) else (some false)) else (some false)) else (none)) else (some false)) else (none))) else (some false)) else (some false)) else (some false)) else (some false)) else (some false)) else (some false)) else (some false)) else (some false))))) = some r := by first | (rw [hy167]; with_reducible exact H) | (have H2_ := (Option.bind_some _ _).symm.trans H; rw [hy167]; with_reducible exact H2_) | (have H2_ := (Option.bind_some _ _).symm.trans H; with_reducible exact H2_) | with_reducible exact H | (rw [hy167]; exact H) | exact H
  have Ny167 := Aside0.mk hy167
  clear hy167
  replace H := Option.bind_eq_some_iff.mp H
  obtain ⟨⟨t170, t171, t172, t175⟩, A70, H⟩ := H
  replace H : ((trap_Requests.f k ([] : List (S30)) (([(⟨2, (⟨#[97]⟩ : ByteArray)⟩ : S30), (⟨15, (⟨#[]⟩ : ByteArray)⟩ : S30)] : List (S30))) false).bind fun t180 => ((trap_Requests.f k ([] : List (S30)) (([(⟨2, (⟨#[97]⟩ : ByteArray)⟩ : S30), (⟨15, (⟨#[]⟩ : ByteArray)⟩ : S30)] : List (S30))) true).bind fun t186 => (if (t161.length : Int) = 2 then (if (t172.length : Int) = 1 then (if (t180.length : Int) = 2 then (if (t186.length : Int) = 0 then (if t149 = 2 then (if t150 = true then (if t151 = 0 then (if t152 = true then (if t154 = true then (some false) else (if 0 < (t161.length : Int) then (if (rdOf ByteArray.empty t161 0).toList = ([116, 114, 97, 112, 32, 45, 45, 32, 39, 39, 32, 69, 88, 73, 84] : List UInt8) then (if 1 < (t161.length : Int) then (if (rdOf ByteArray.empty t161 1).toList = ([116, 114, 97, 112, 32, 45, 45, 32, 39, 101, 99, 104, 111, 32, 104, 105, 39, 32, 73, 78, 84] : List UInt8) then (if t171.toList = ([97] : List UInt8) then (if 0 < (t172.length : Int) then (if (rd t172 0) = 15 then (if t175 = true then (if 0 < (t180.length : Int) then (if ((rd_T40 t180 0).f0) = 14 then (if ((rd_T40 t180 0).f5) = 2 then (if ((rd_T40 t180 0).f6) = 2 then (if 1 < (t180.length : Int) then (if ((rd_T40 t180 1).f5) = 15 then (some (((rd_T40 t180 1).f6) == 1)) else (some false)) else (none)) else (some false)) else (some false)) else (some false)) else (none)) else (some false)) else (some false)) else (none)) else (some false)) else (some false)) else (none)) else (some false)) else (none))) else (some false)) else (some false)) else (some false)) else (some false)) else (some false)) else (some false)) else (some false)) else (some false)))) = some r := H
  have A7 := Aside0.mk A70
  clear A70
  obtain ⟨y177, hy177⟩ : ∃ y_ : List (S30), y_ = (([(⟨2, (⟨#[97]⟩ : ByteArray)⟩ : S30), (⟨15, (⟨#[]⟩ : ByteArray)⟩ : S30)] : List (S30))) := ⟨_, rfl⟩
  replace H : ((trap_Requests.f k ([] : List (S30)) y177 false).bind fun t180 => ((trap_Requests.f k ([] : List (S30)) (([(⟨2, (⟨#[97]⟩ : ByteArray)⟩ : S30), (⟨15, (⟨#[]⟩ : ByteArray)⟩ : S30)] : List (S30))) true).bind fun t186 => (if (t161.length : Int) = 2 then (if (t172.length : Int) = 1 then (if (t180.length : Int) = 2 then (if (t186.length : Int) = 0 then (if t149 = 2 then (if t150 = true then (if t151 = 0 then (if t152 = true then (if t154 = true then (some false) else (if 0 < (t161.length : Int) then (if (rdOf ByteArray.empty t161 0).toList = ([116, 114, 97, 112, 32, 45, 45, 32, 39, 39, 32, 69, 88, 73, 84] : List UInt8) then (if 1 < (t161.length : Int) then (if (rdOf ByteArray.empty t161 1).toList = ([116, 114, 97, 112, 32, 45, 45, 32, 39, 101, 99, 104, 111, 32, 104, 105, 39, 32, 73, 78, 84] : List UInt8) then (if t171.toList = ([97] : List UInt8) then (if 0 < (t172.length : Int) then (if (rd t172 0) = 15 then (if t175 = true then (if 0 < (t180.length : Int) then (if ((rd_T40 t180 0).f0) = 14 then (if ((rd_T40 t180 0).f5) = 2 then (if ((rd_T40 t180 0).f6) = 2 then (if 1 < (t180.length : Int) then (if ((rd_T40 t180 1).f5) = 15 then (some (((rd_T40 t180 1).f6) == 1)) else (some false)) else (none)) else (some false)) else (some false)) else (some false)) else (none)) else (some false)) else (some false)) else (none)) else (some false)) else (some false)) else (none)) else (some false)) else (none))) else (some false)) else (some false)) else (some false)) else (some false)) else (some false)) else (some false)) else (some false)) else (some false)))) = some r := by first | (rw [hy177]; with_reducible exact H) | (have H2_ := (Option.bind_some _ _).symm.trans H; rw [hy177]; with_reducible exact H2_) | (have H2_ := (Option.bind_some _ _).symm.trans H; with_reducible exact H2_) | with_reducible exact H | (rw [hy177]; exact H) | exact H
  have Ny177 := Aside0.mk hy177
  clear hy177
  replace H := Option.bind_eq_some_iff.mp H
  obtain ⟨t180, A80, H⟩ := H
  replace H : ((trap_Requests.f k ([] : List (S30)) (([(⟨2, (⟨#[97]⟩ : ByteArray)⟩ : S30), (⟨15, (⟨#[]⟩ : ByteArray)⟩ : S30)] : List (S30))) true).bind fun t186 => (if (t161.length : Int) = 2 then (if (t172.length : Int) = 1 then (if (t180.length : Int) = 2 then (if (t186.length : Int) = 0 then (if t149 = 2 then (if t150 = true then (if t151 = 0 then (if t152 = true then (if t154 = true then (some false) else (if 0 < (t161.length : Int) then (if (rdOf ByteArray.empty t161 0).toList = ([116, 114, 97, 112, 32, 45, 45, 32, 39, 39, 32, 69, 88, 73, 84] : List UInt8) then (if 1 < (t161.length : Int) then (if (rdOf ByteArray.empty t161 1).toList = ([116, 114, 97, 112, 32, 45, 45, 32, 39, 101, 99, 104, 111, 32, 104, 105, 39, 32, 73, 78, 84] : List UInt8) then (if t171.toList = ([97] : List UInt8) then (if 0 < (t172.length : Int) then (if (rd t172 0) = 15 then (if t175 = true then (if 0 < (t180.length : Int) then (if ((rd_T40 t180 0).f0) = 14 then (if ((rd_T40 t180 0).f5) = 2 then (if ((rd_T40 t180 0).f6) = 2 then (if 1 < (t180.length : Int) then (if ((rd_T40 t180 1).f5) = 15 then (some (((rd_T40 t180 1).f6) == 1)) else (some false)) else (none)) else (some false)) else (some false)) else (some false)) else (none)) else (some false)) else (some false)) else (none)) else (some false)) else (some false)) else (none)) else (some false)) else (none))) else (some false)) else (some false)) else (some false)) else (some false)) else (some false)) else (some false)) else (some false)) else (some false))) = some r := H
  have A8 := Aside0.mk A80
  clear A80
  obtain ⟨y183, hy183⟩ : ∃ y_ : List (S30), y_ = (([(⟨2, (⟨#[97]⟩ : ByteArray)⟩ : S30), (⟨15, (⟨#[]⟩ : ByteArray)⟩ : S30)] : List (S30))) := ⟨_, rfl⟩
  replace H : ((trap_Requests.f k ([] : List (S30)) y183 true).bind fun t186 => (if (t161.length : Int) = 2 then (if (t172.length : Int) = 1 then (if (t180.length : Int) = 2 then (if (t186.length : Int) = 0 then (if t149 = 2 then (if t150 = true then (if t151 = 0 then (if t152 = true then (if t154 = true then (some false) else (if 0 < (t161.length : Int) then (if (rdOf ByteArray.empty t161 0).toList = ([116, 114, 97, 112, 32, 45, 45, 32, 39, 39, 32, 69, 88, 73, 84] : List UInt8) then (if 1 < (t161.length : Int) then (if (rdOf ByteArray.empty t161 1).toList = ([116, 114, 97, 112, 32, 45, 45, 32, 39, 101, 99, 104, 111, 32, 104, 105, 39, 32, 73, 78, 84] : List UInt8) then (if t171.toList = ([97] : List UInt8) then (if 0 < (t172.length : Int) then (if (rd t172 0) = 15 then (if t175 = true then (if 0 < (t180.length : Int) then (if ((rd_T40 t180 0).f0) = 14 then (if ((rd_T40 t180 0).f5) = 2 then (if ((rd_T40 t180 0).f6) = 2 then (if 1 < (t180.length : Int) then (if ((rd_T40 t180 1).f5) = 15 then (some (((rd_T40 t180 1).f6) == 1)) else (some false)) else (none)) else (some false)) else (some false)) else (some false)) else (none)) else (some false)) else (some false)) else (none)) else (some false)) else (some false)) else (none)) else (some false)) else (none))) else (some false)) else (some false)) else (some false)) else (some false)) else (some false)) else (some false)) else (some false)) else (some false))) = some r := by first | (rw [hy183]; with_reducible exact H) | (have H2_ := (Option.bind_some _ _).symm.trans H; rw [hy183]; with_reducible exact H2_) | (have H2_ := (Option.bind_some _ _).symm.trans H; with_reducible exact H2_) | with_reducible exact H | (rw [hy183]; exact H) | exact H
  have Ny183 := Aside0.mk hy183
  clear hy183
  replace H := Option.bind_eq_some_iff.mp H
  obtain ⟨t186, A90, H⟩ := H
  replace H : (if (t161.length : Int) = 2 then (if (t172.length : Int) = 1 then (if (t180.length : Int) = 2 then (if (t186.length : Int) = 0 then (if t149 = 2 then (if t150 = true then (if t151 = 0 then (if t152 = true then (if t154 = true then (some false) else (if 0 < (t161.length : Int) then (if (rdOf ByteArray.empty t161 0).toList = ([116, 114, 97, 112, 32, 45, 45, 32, 39, 39, 32, 69, 88, 73, 84] : List UInt8) then (if 1 < (t161.length : Int) then (if (rdOf ByteArray.empty t161 1).toList = ([116, 114, 97, 112, 32, 45, 45, 32, 39, 101, 99, 104, 111, 32, 104, 105, 39, 32, 73, 78, 84] : List UInt8) then (if t171.toList = ([97] : List UInt8) then (if 0 < (t172.length : Int) then (if (rd t172 0) = 15 then (if t175 = true then (if 0 < (t180.length : Int) then (if ((rd_T40 t180 0).f0) = 14 then (if ((rd_T40 t180 0).f5) = 2 then (if ((rd_T40 t180 0).f6) = 2 then (if 1 < (t180.length : Int) then (if ((rd_T40 t180 1).f5) = 15 then (some (((rd_T40 t180 1).f6) == 1)) else (some false)) else (none)) else (some false)) else (some false)) else (some false)) else (none)) else (some false)) else (some false)) else (none)) else (some false)) else (some false)) else (none)) else (some false)) else (none))) else (some false)) else (some false)) else (some false)) else (some false)) else (some false)) else (some false)) else (some false)) else (some false)) = some r := H
  have A9 := Aside0.mk A90
  clear A90
  by_cases c10 : (t161.length : Int) = 2
  · rw [if_pos c10] at H
    have c10b0 : ((t161.length : Int) == 2) = true := beq_iff_eq.mpr c10
    have c10b1 : ((t161.length : Int) != 2) = false := bne_eq_false_iff_eq.mpr c10
    clear c10
    by_cases c11 : (t172.length : Int) = 1
    · rw [if_pos c11] at H
      have c11b0 : ((t172.length : Int) == 1) = true := beq_iff_eq.mpr c11
      have c11b1 : ((t172.length : Int) != 1) = false := bne_eq_false_iff_eq.mpr c11
      clear c11
      by_cases c12 : (t180.length : Int) = 2
      · rw [if_pos c12] at H
        have c12b0 : ((t180.length : Int) == 2) = true := beq_iff_eq.mpr c12
        have c12b1 : ((t180.length : Int) != 2) = false := bne_eq_false_iff_eq.mpr c12
        clear c12
        by_cases c13 : (t186.length : Int) = 0
        · rw [if_pos c13] at H
          have c13b0 : ((t186.length : Int) == 0) = true := beq_iff_eq.mpr c13
          have c13b1 : ((t186.length : Int) != 0) = false := bne_eq_false_iff_eq.mpr c13
          clear c13
          by_cases c14 : t149 = 2
          · rw [if_pos c14] at H
            have c14b0 : (t149 == 2) = true := beq_iff_eq.mpr c14
            have c14b1 : (t149 != 2) = false := bne_eq_false_iff_eq.mpr c14
            clear c14
            by_cases c15 : t150 = true
            · subst c15
              have H1 : (if t151 = 0 then (if t152 = true then (if t154 = true then (some false) else (if 0 < (t161.length : Int) then (if (rdOf ByteArray.empty t161 0).toList = ([116, 114, 97, 112, 32, 45, 45, 32, 39, 39, 32, 69, 88, 73, 84] : List UInt8) then (if 1 < (t161.length : Int) then (if (rdOf ByteArray.empty t161 1).toList = ([116, 114, 97, 112, 32, 45, 45, 32, 39, 101, 99, 104, 111, 32, 104, 105, 39, 32, 73, 78, 84] : List UInt8) then (if t171.toList = ([97] : List UInt8) then (if 0 < (t172.length : Int) then (if (rd t172 0) = 15 then (if t175 = true then (if 0 < (t180.length : Int) then (if ((rd_T40 t180 0).f0) = 14 then (if ((rd_T40 t180 0).f5) = 2 then (if ((rd_T40 t180 0).f6) = 2 then (if 1 < (t180.length : Int) then (if ((rd_T40 t180 1).f5) = 15 then (some (((rd_T40 t180 1).f6) == 1)) else (some false)) else (none)) else (some false)) else (some false)) else (some false)) else (none)) else (some false)) else (some false)) else (none)) else (some false)) else (some false)) else (none)) else (some false)) else (none))) else (some false)) else (some false)) = some r := by rw [if_pos rfl] at H; exact H
              clear H
              have H := H1
              clear H1
              by_cases c16 : t151 = 0
              · rw [if_pos c16] at H
                have c16b0 : (t151 == 0) = true := beq_iff_eq.mpr c16
                have c16b1 : (t151 != 0) = false := bne_eq_false_iff_eq.mpr c16
                clear c16
                by_cases c17 : t152 = true
                · subst c17
                  have H1 : (if t154 = true then (some false) else (if 0 < (t161.length : Int) then (if (rdOf ByteArray.empty t161 0).toList = ([116, 114, 97, 112, 32, 45, 45, 32, 39, 39, 32, 69, 88, 73, 84] : List UInt8) then (if 1 < (t161.length : Int) then (if (rdOf ByteArray.empty t161 1).toList = ([116, 114, 97, 112, 32, 45, 45, 32, 39, 101, 99, 104, 111, 32, 104, 105, 39, 32, 73, 78, 84] : List UInt8) then (if t171.toList = ([97] : List UInt8) then (if 0 < (t172.length : Int) then (if (rd t172 0) = 15 then (if t175 = true then (if 0 < (t180.length : Int) then (if ((rd_T40 t180 0).f0) = 14 then (if ((rd_T40 t180 0).f5) = 2 then (if ((rd_T40 t180 0).f6) = 2 then (if 1 < (t180.length : Int) then (if ((rd_T40 t180 1).f5) = 15 then (some (((rd_T40 t180 1).f6) == 1)) else (some false)) else (none)) else (some false)) else (some false)) else (some false)) else (none)) else (some false)) else (some false)) else (none)) else (some false)) else (some false)) else (none)) else (some false)) else (none))) = some r := by rw [if_pos rfl] at H; exact H
                  clear H
                  have H := H1
                  clear H1
                  by_cases c18 : t154 = true
                  · subst c18
                    have H1 : (some false) = some r := by rw [if_pos rfl] at H; exact H
                    clear H
                    have H := H1
                    clear H1
                    exact absurd ((Option.some.inj H).trans HT.out) (by decide)
                  · replace c18 := Bool.eq_false_iff.mpr c18
                    subst c18
                    have H1 : (if 0 < (t161.length : Int) then (if (rdOf ByteArray.empty t161 0).toList = ([116, 114, 97, 112, 32, 45, 45, 32, 39, 39, 32, 69, 88, 73, 84] : List UInt8) then (if 1 < (t161.length : Int) then (if (rdOf ByteArray.empty t161 1).toList = ([116, 114, 97, 112, 32, 45, 45, 32, 39, 101, 99, 104, 111, 32, 104, 105, 39, 32, 73, 78, 84] : List UInt8) then (if t171.toList = ([97] : List UInt8) then (if 0 < (t172.length : Int) then (if (rd t172 0) = 15 then (if t175 = true then (if 0 < (t180.length : Int) then (if ((rd_T40 t180 0).f0) = 14 then (if ((rd_T40 t180 0).f5) = 2 then (if ((rd_T40 t180 0).f6) = 2 then (if 1 < (t180.length : Int) then (if ((rd_T40 t180 1).f5) = 15 then (some (((rd_T40 t180 1).f6) == 1)) else (some false)) else (none)) else (some false)) else (some false)) else (some false)) else (none)) else (some false)) else (some false)) else (none)) else (some false)) else (some false)) else (none)) else (some false)) else (none)) = some r := by rw [if_neg (show ¬ (false = true) by decide)] at H; exact H
                    clear H
                    have H := H1
                    clear H1
                    by_cases c19 : 0 < (t161.length : Int)
                    · rw [if_pos c19] at H
                      have c19b0 : decide (0 < (t161.length : Int)) = true := decide_eq_true c19
                      have c19b1 : decide (0 < t161.length) = true := decide_eq_true (by omega)
                      clear c19
                      by_cases c20 : (rdOf ByteArray.empty t161 0).toList = ([116, 114, 97, 112, 32, 45, 45, 32, 39, 39, 32, 69, 88, 73, 84] : List UInt8)
                      · rw [if_pos c20] at H
                        have c20b0 : ((rdOf ByteArray.empty t161 0).toList == ([116, 114, 97, 112, 32, 45, 45, 32, 39, 39, 32, 69, 88, 73, 84] : List UInt8)) = true := beq_iff_eq.mpr c20
                        have c20b1 : ((rdOf ByteArray.empty t161 0).toList != ([116, 114, 97, 112, 32, 45, 45, 32, 39, 39, 32, 69, 88, 73, 84] : List UInt8)) = false := bne_eq_false_iff_eq.mpr c20
                        clear c20
                        by_cases c21 : 1 < (t161.length : Int)
                        · rw [if_pos c21] at H
                          have c21b0 : decide (1 < (t161.length : Int)) = true := decide_eq_true c21
                          have c21b1 : decide (1 < t161.length) = true := decide_eq_true (by omega)
                          clear c21
                          by_cases c22 : (rdOf ByteArray.empty t161 1).toList = ([116, 114, 97, 112, 32, 45, 45, 32, 39, 101, 99, 104, 111, 32, 104, 105, 39, 32, 73, 78, 84] : List UInt8)
                          · rw [if_pos c22] at H
                            have c22b0 : ((rdOf ByteArray.empty t161 1).toList == ([116, 114, 97, 112, 32, 45, 45, 32, 39, 101, 99, 104, 111, 32, 104, 105, 39, 32, 73, 78, 84] : List UInt8)) = true := beq_iff_eq.mpr c22
                            have c22b1 : ((rdOf ByteArray.empty t161 1).toList != ([116, 114, 97, 112, 32, 45, 45, 32, 39, 101, 99, 104, 111, 32, 104, 105, 39, 32, 73, 78, 84] : List UInt8)) = false := bne_eq_false_iff_eq.mpr c22
                            clear c22
                            by_cases c23 : t171.toList = ([97] : List UInt8)
                            · rw [if_pos c23] at H
                              have c23b0 : (t171.toList == ([97] : List UInt8)) = true := beq_iff_eq.mpr c23
                              have c23b1 : (t171.toList != ([97] : List UInt8)) = false := bne_eq_false_iff_eq.mpr c23
                              clear c23
                              by_cases c24 : 0 < (t172.length : Int)
                              · rw [if_pos c24] at H
                                have c24b0 : decide (0 < (t172.length : Int)) = true := decide_eq_true c24
                                have c24b1 : decide (0 < t172.length) = true := decide_eq_true (by omega)
                                clear c24
                                by_cases c25 : (rd t172 0) = 15
                                · rw [if_pos c25] at H
                                  have c25b0 : ((rd t172 0) == 15) = true := beq_iff_eq.mpr c25
                                  have c25b1 : ((rd t172 0) != 15) = false := bne_eq_false_iff_eq.mpr c25
                                  clear c25
                                  by_cases c26 : t175 = true
                                  · subst c26
                                    have H1 : (if 0 < (t180.length : Int) then (if ((rd_T40 t180 0).f0) = 14 then (if ((rd_T40 t180 0).f5) = 2 then (if ((rd_T40 t180 0).f6) = 2 then (if 1 < (t180.length : Int) then (if ((rd_T40 t180 1).f5) = 15 then (some (((rd_T40 t180 1).f6) == 1)) else (some false)) else (none)) else (some false)) else (some false)) else (some false)) else (none)) = some r := by rw [if_pos rfl] at H; exact H
                                    clear H
                                    have H := H1
                                    clear H1
                                    by_cases c27 : 0 < (t180.length : Int)
                                    · rw [if_pos c27] at H
                                      have c27b0 : decide (0 < (t180.length : Int)) = true := decide_eq_true c27
                                      have c27b1 : decide (0 < t180.length) = true := decide_eq_true (by omega)
                                      clear c27
                                      by_cases c28 : ((rd_T40 t180 0).f0) = 14
                                      · rw [if_pos c28] at H
                                        have c28b0 : (((rd_T40 t180 0).f0) == 14) = true := beq_iff_eq.mpr c28
                                        have c28b1 : (((rd_T40 t180 0).f0) != 14) = false := bne_eq_false_iff_eq.mpr c28
                                        clear c28
                                        by_cases c29 : ((rd_T40 t180 0).f5) = 2
                                        · rw [if_pos c29] at H
                                          have c29b0 : (((rd_T40 t180 0).f5) == 2) = true := beq_iff_eq.mpr c29
                                          have c29b1 : (((rd_T40 t180 0).f5) != 2) = false := bne_eq_false_iff_eq.mpr c29
                                          clear c29
                                          by_cases c30 : ((rd_T40 t180 0).f6) = 2
                                          · rw [if_pos c30] at H
                                            have c30b0 : (((rd_T40 t180 0).f6) == 2) = true := beq_iff_eq.mpr c30
                                            have c30b1 : (((rd_T40 t180 0).f6) != 2) = false := bne_eq_false_iff_eq.mpr c30
                                            clear c30
                                            by_cases c31 : 1 < (t180.length : Int)
                                            · rw [if_pos c31] at H
                                              have c31b0 : decide (1 < (t180.length : Int)) = true := decide_eq_true c31
                                              have c31b1 : decide (1 < t180.length) = true := decide_eq_true (by omega)
                                              clear c31
                                              by_cases c32 : ((rd_T40 t180 1).f5) = 15
                                              · rw [if_pos c32] at H
                                                have c32b0 : (((rd_T40 t180 1).f5) == 15) = true := beq_iff_eq.mpr c32
                                                have c32b1 : (((rd_T40 t180 1).f5) != 15) = false := bne_eq_false_iff_eq.mpr c32
                                                clear c32
                                                obtain rfl := Option.some.inj H
                                                go_enter Tryd.func10, Tryd.ntmps10
                                                go_wp2_with (first | ((with_reducible refine gate_callee (f := 11) rfl ?_); refine goesL_ (some 16) rfl rfl Tryd.func11 (by kernel_rfl) rfl #[.string (⟨#[83, 73, 71, 73, 78, 84]⟩ : ByteArray)] rfl (by (try simp only [List.map_toArray, List.map_cons, List.map_nil]); first | done | rfl | (simp only [List.length_drop, List.length_take]; rfl)) ?_; (with_reducible refine (trap_Signal.calls k (⟨#[83, 73, 71, 73, 78, 84]⟩ : ByteArray) t149 true _ A1.out).mono ?_); rintro e w33 ⟨rfl, hb⟩; refine ⟨_, rfl, ?_⟩; have n0_ := Aside0.mk (below_step (by repeat (first | (with_reducible first | exact HB.out | apply below_alloc | apply pw_below_drewN | apply below_drew1) | exact HB.out)) hb); clear HB; have HB := n0_; clear n0_; (try clear hb); (try clear hb2); (try clear hk); (try clear hi)) | ((with_reducible refine gate_callee (f := 11) rfl ?_); refine goesL_ (some 20) rfl rfl Tryd.func11 (by kernel_rfl) rfl #[.string (⟨#[69, 88, 73, 84]⟩ : ByteArray)] rfl (by (try simp only [List.map_toArray, List.map_cons, List.map_nil]); first | done | rfl | (simp only [List.length_drop, List.length_take]; rfl)) ?_; (with_reducible refine (trap_Signal.calls k (⟨#[69, 88, 73, 84]⟩ : ByteArray) t151 true _ A2.out).mono ?_); rintro e w34 ⟨rfl, hb⟩; refine ⟨_, rfl, ?_⟩; have n0_ := Aside0.mk (below_step (by repeat (first | (with_reducible first | exact HB.out | apply below_alloc | apply pw_below_drewN | apply below_drew1) | exact HB.out)) hb); clear HB; have HB := n0_; clear n0_; (try clear hb); (try clear hb2); (try clear hk); (try clear hi)) | ((with_reducible refine gate_callee (f := 11) rfl ?_); refine goesL_ (some 24) rfl rfl Tryd.func11 (by kernel_rfl) rfl #[.string (⟨#[83, 73, 71, 50]⟩ : ByteArray)] rfl (by (try simp only [List.map_toArray, List.map_cons, List.map_nil]); first | done | rfl | (simp only [List.length_drop, List.length_take]; rfl)) ?_; (with_reducible refine (trap_Signal.calls k (⟨#[83, 73, 71, 50]⟩ : ByteArray) t153 false _ A3.out).mono ?_); rintro e w35 ⟨rfl, hb⟩; refine ⟨_, rfl, ?_⟩; have n0_ := Aside0.mk (below_step (by repeat (first | (with_reducible first | exact HB.out | apply below_alloc | apply pw_below_drewN | apply below_drew1) | exact HB.out)) hb); clear HB; have HB := n0_; clear n0_; (try clear hb); (try clear hb2); (try clear hk); (try clear hi)) | ((with_reducible refine gate_callee (f := 21) rfl ?_); refine goesL_ (some 27) rfl rfl Tryd.func21 (by kernel_rfl) rfl #[.slice none 0 0, .int .i64 2, .string (⟨#[101, 99, 104, 111, 32, 104, 105]⟩ : ByteArray)] rfl (by (try simp only [List.map_toArray, List.map_cons, List.map_nil]); first | done | rfl | (simp only [List.length_drop, List.length_take]; rfl)) ?_; (refine (trap_Set.calls k (fun k_ => False) _ _ ([] : List (S30)) 2 (⟨#[101, 99, 104, 111, 32, 104, 105]⟩ : ByteArray) t155 _ ?side1 A4.out).mono ?_); (case side1 => exact Kd.V_nil _ _ _ _ _); rintro e w36 ⟨v156, rfl, ho0, hb⟩; refine ⟨_, rfl, ?_⟩; have n0_ := Aside0.mk (Kd.V_lower (Kd.V_mono (ok' := fun k_ => True) ho0 (fun k_ hk_ => trivial)) (below_size (by repeat (first | (with_reducible first | exact HB.out | apply below_alloc | apply pw_below_drewN | apply below_drew1) | exact HB.out)))); have n1_ := Aside0.mk (below_step (by repeat (first | (with_reducible first | exact HB.out | apply below_alloc | apply pw_below_drewN | apply below_drew1) | exact HB.out)) hb); clear HB; have HO157 := n0_; have HB := n1_; clear n0_ n1_; (try clear hb); (try clear hb2); (try clear hk); (try clear hi); (try clear ho0); obtain ⟨Ao37, co37, eo37⟩ := Kd.V_slice HO157.out; subst eo37) | ((with_reducible refine gate_callee (f := 21) rfl ?_); refine goesL_ (some 28) rfl rfl Tryd.func21 (by kernel_rfl) rfl #[.slice Ao37 t155.length co37, .int .i64 0, .string (⟨#[]⟩ : ByteArray)] rfl (by (try simp only [List.map_toArray, List.map_cons, List.map_nil]); first | done | rfl | (simp only [List.length_drop, List.length_take]; rfl)) ?_; (with_reducible refine (trap_Set.calls k (fun k_ => True) _ _ t155 0 (⟨#[]⟩ : ByteArray) t158 _ ?side1 A5.out).mono ?_); (case side1 => exact HO157.out); rintro e w38 ⟨v159, rfl, ho0, hb⟩; refine ⟨_, rfl, ?_⟩; have n0_ := Aside0.mk (Kd.V_below (by (with_reducible repeat (first | apply Kd.V_alloc | apply Kd.V_drewN | apply Kd.V_drew)); exact HO157.out) hb); have n1_ := Aside0.mk (Kd.V_lower (Kd.V_mono (ok' := fun k_ => True) ho0 (fun k_ hk_ => trivial)) (below_size (by repeat (first | (with_reducible first | exact HB.out | apply below_alloc | apply pw_below_drewN | apply below_drew1) | exact HB.out)))); have n2_ := Aside0.mk (below_step (by repeat (first | (with_reducible first | exact HB.out | apply below_alloc | apply pw_below_drewN | apply below_drew1) | exact HB.out)) hb); clear HO157; clear HB; have HO157 := n0_; have HO160 := n1_; have HB := n2_; clear n0_ n1_ n2_; (try clear hb); (try clear hb2); (try clear hk); (try clear hi); (try clear ho0); obtain ⟨Ao39, co39, eo39⟩ := Kd.V_slice HO160.out; subst eo39) | ((with_reducible refine gate_callee (f := 26) rfl ?_); refine goesL_ (some 30) rfl rfl Tryd.func26 (by kernel_rfl) rfl #[.slice Ao39 t158.length co39] rfl (by (try simp only [List.map_toArray, List.map_cons, List.map_nil]); first | done | rfl | (simp only [List.length_drop, List.length_take]; rfl)) ?_; (with_reducible refine (trap_Show.calls k _ _ t158 t161 _ ?side1 ?side2 A6.out).mono ?_); (case side1 => repeat (first | exact (Kd.V_reads' HO160.out).2.2 | (with_reducible refine Kd.C_alloc ?_ _) | (with_reducible refine Kd.C_drewN ?_ _) | (with_reducible refine Kd.C_drew ?_))); (case side2 => exact (Kd.V_reads' HO160.out).2.1); rintro e w40 ⟨v162, rfl, ho0, hb⟩; refine ⟨_, rfl, ?_⟩; have n0_ := Aside0.mk (Kd.V_elder' (by (with_reducible repeat (first | apply Kd.V_alloc | apply Kd.V_drewN | apply Kd.V_drew)); exact HO157.out) (Kd.R_base ho0) hb); have n1_ := Aside0.mk (Kd.V_elder' (by (with_reducible repeat (first | apply Kd.V_alloc | apply Kd.V_drewN | apply Kd.V_drew)); exact HO160.out) (Kd.R_base ho0) hb); have n2_ := Aside0.mk (Kd.R_lower ho0 (below_size (by repeat (first | (with_reducible first | exact HB.out | apply below_alloc | apply pw_below_drewN | apply below_drew1) | exact HB.out)))); have n3_ := Aside0.mk (below_step (by repeat (first | (with_reducible first | exact HB.out | apply below_alloc | apply pw_below_drewN | apply below_drew1) | exact HB.out)) hb); clear HO157; clear HO160; clear HB; have HO157 := n0_; have HO160 := n1_; have HO163 := n2_; have HB := n3_; clear n0_ n1_ n2_ n3_; (try clear hb); (try clear hb2); (try clear hk); (try clear hi); (try clear ho0)) | ((with_reducible refine gate_dst (N := 33) rfl ?_); (try (refine gate_guard (by rfl) ?_; dsimp only)); refine Kd.R_lit k30 _ 30 ?hg (N := 33) ?hd (xs := ([(⟨2, (⟨#[97]⟩ : ByteArray)⟩ : S30), (⟨15, (⟨#[98]⟩ : ByteArray)⟩ : S30)] : List (S30))) (inner := [.int .i64 2, .string (⟨#[97]⟩ : ByteArray), .int .i64 15, .string (⟨#[98]⟩ : ByteArray)]) (ok := fun _ => True) (okp := fun _ => True) ?hr ?hp (fun _ hk => hk) trivial (Below.refl _ _) (Nat.le_refl _) (by simp) ?_; (case hd => rfl); (case hg => rfl); (case hr => first | (go_simp; done) | (go_simp; rfl)); (case hp => exact (Reps.c2 (show Kd.M k30 _ _ _ (⟨2, (⟨#[97]⟩ : ByteArray)⟩ : S30) [.int .i64 2, .string (⟨#[97]⟩ : ByteArray)] from (k30_mkM _ _ _ (⟨2, (⟨#[97]⟩ : ByteArray)⟩ : S30) )) (Reps.c2 (show Kd.M k30 _ _ _ (⟨15, (⟨#[98]⟩ : ByteArray)⟩ : S30) [.int .i64 15, .string (⟨#[98]⟩ : ByteArray)] from (k30_mkM _ _ _ (⟨15, (⟨#[98]⟩ : ByteArray)⟩ : S30) )) (Reps.none _ _)))); intro v165 w41 ho42 hb hg_ hnew_; clear hg_ hnew_; (first | rw [← Ny164.out] at ho42 | (simp only [Int.reduceToNat] at ho42; rw [← Ny164.out] at ho42)); have n0_ := Aside0.mk (Kd.V_elder' (by (with_reducible repeat (first | apply Kd.V_alloc | apply Kd.V_drewN | apply Kd.V_drew)); exact HO157.out) (Kd.R_base ho42) hb); have n1_ := Aside0.mk (Kd.V_elder' (by (with_reducible repeat (first | apply Kd.V_alloc | apply Kd.V_drewN | apply Kd.V_drew)); exact HO160.out) (Kd.R_base ho42) hb); have n2_ := Aside0.mk (Kd.R_below (by (with_reducible repeat (first | apply Kd.R_alloc | apply Kd.R_drewN | apply Kd.R_drew)); exact HO163.out) hb); have n3_ := Aside0.mk (Kd.R_lower ho42 (below_size (by repeat (first | (with_reducible first | exact HB.out | apply below_alloc | apply pw_below_drewN | apply below_drew1) | exact HB.out)))); have n4_ := Aside0.mk (below_step (by repeat (first | (with_reducible first | exact HB.out | apply below_alloc | apply pw_below_drewN | apply below_drew1) | exact HB.out)) hb); clear HO157; clear HO160; clear HO163; clear HB; have HO157 := n0_; have HO160 := n1_; have HO163 := n2_; have HO166 := n3_; have HB := n4_; clear n0_ n1_ n2_ n3_ n4_; clear hb ho42) | ((with_reducible refine gate_dst (N := 36) rfl ?_); (try (refine gate_guard (by rfl) ?_; dsimp only)); refine Kd.R_lit (Kd.int .i64) _ 3 ?hg (N := 36) ?hd (xs := ([1, 15, 2] : List Int)) (inner := [.int .i64 1, .int .i64 15, .int .i64 2]) (ok := fun _ => True) (okp := fun _ => True) ?hr ?hp (fun _ hk => hk) trivial (Below.refl _ _) (Nat.le_refl _) (by simp) ?_; (case hd => rfl); (case hg => rfl); (case hr => first | (go_simp; done) | (go_simp; rfl)); (case hp => exact (Reps.one (show Kd.M (Kd.int .i64) _ _ _ 1 [.int .i64 1] from rfl) (Reps.one (show Kd.M (Kd.int .i64) _ _ _ 15 [.int .i64 15] from rfl) (Reps.one (show Kd.M (Kd.int .i64) _ _ _ 2 [.int .i64 2] from rfl) (Reps.none _ _))))); intro v168 w43 ho44 hb hg_ hnew_; clear hg_ hnew_; (first | rw [← Ny167.out] at ho44 | (simp only [Int.reduceToNat] at ho44; rw [← Ny167.out] at ho44)); have n0_ := Aside0.mk (Kd.V_elder' (by (with_reducible repeat (first | apply Kd.V_alloc | apply Kd.V_drewN | apply Kd.V_drew)); exact HO157.out) (Kd.R_base ho44) hb); have n1_ := Aside0.mk (Kd.V_elder' (by (with_reducible repeat (first | apply Kd.V_alloc | apply Kd.V_drewN | apply Kd.V_drew)); exact HO160.out) (Kd.R_base ho44) hb); have n2_ := Aside0.mk (Kd.R_below (by (with_reducible repeat (first | apply Kd.R_alloc | apply Kd.R_drewN | apply Kd.R_drew)); exact HO163.out) hb); have n3_ := Aside0.mk (Kd.R_below (by (with_reducible repeat (first | apply Kd.R_alloc | apply Kd.R_drewN | apply Kd.R_drew)); exact HO166.out) hb); have n4_ := Aside0.mk (Kd.R_lower ho44 (below_size (by repeat (first | (with_reducible first | exact HB.out | apply below_alloc | apply pw_below_drewN | apply below_drew1) | exact HB.out)))); have n5_ := Aside0.mk (below_step (by repeat (first | (with_reducible first | exact HB.out | apply below_alloc | apply pw_below_drewN | apply below_drew1) | exact HB.out)) hb); clear HO157; clear HO160; clear HO163; clear HO166; clear HB; have HO157 := n0_; have HO160 := n1_; have HO163 := n2_; have HO166 := n3_; have HO169 := n4_; have HB := n5_; clear n0_ n1_ n2_ n3_ n4_ n5_; clear hb ho44; obtain ⟨Ao45, co45, eo45⟩ := Kd.R_slice HO166.out; subst eo45; obtain ⟨Ao46, co46, eo46⟩ := Kd.R_slice HO169.out; subst eo46) | ((with_reducible refine gate_callee (f := 14) rfl ?_); refine goesL_ (some 37) rfl rfl Tryd.func14 (by kernel_rfl) rfl #[.slice Ao45 y164.length co45, .slice Ao46 y167.length co46] rfl (by (try simp only [List.map_toArray, List.map_cons, List.map_nil]); first | done | rfl | (simp only [List.length_drop, List.length_take]; rfl)) ?_; (with_reducible refine (trap_Next.calls _ _ y164 _ _ y167 t170 t171 t172 true _ ?side1 ?side2 ?side3 ?side4 A7.out).mono ?_); (case side1 => repeat (first | exact (Kd.R_reads' HO166.out).2.2 | (with_reducible refine Kd.C_alloc ?_ _) | (with_reducible refine Kd.C_drewN ?_ _) | (with_reducible refine Kd.C_drew ?_))); (case side2 => exact (Kd.R_reads' HO166.out).2.1); (case side3 => repeat (first | exact (Kd.R_reads' HO169.out).2.2 | (with_reducible refine Kd.C_alloc ?_ _) | (with_reducible refine Kd.C_drewN ?_ _) | (with_reducible refine Kd.C_drew ?_))); (case side4 => exact (Kd.R_reads' HO169.out).2.1); rintro e w47 ⟨v173, rfl, ho0, hb⟩; refine ⟨_, rfl, ?_⟩; have n0_ := Aside0.mk (Kd.V_elder' (by (with_reducible repeat (first | apply Kd.V_alloc | apply Kd.V_drewN | apply Kd.V_drew)); exact HO157.out) (Kd.R_base ho0) hb); have n1_ := Aside0.mk (Kd.V_elder' (by (with_reducible repeat (first | apply Kd.V_alloc | apply Kd.V_drewN | apply Kd.V_drew)); exact HO160.out) (Kd.R_base ho0) hb); have n2_ := Aside0.mk (Kd.R_below (by (with_reducible repeat (first | apply Kd.R_alloc | apply Kd.R_drewN | apply Kd.R_drew)); exact HO163.out) hb); have n3_ := Aside0.mk (Kd.R_below (by (with_reducible repeat (first | apply Kd.R_alloc | apply Kd.R_drewN | apply Kd.R_drew)); exact HO166.out) hb); have n4_ := Aside0.mk (Kd.R_elder' (by (with_reducible repeat (first | apply Kd.R_alloc | apply Kd.R_drewN | apply Kd.R_drew)); exact HO169.out) (Kd.R_base ho0) hb); have n5_ := Aside0.mk (Kd.R_lower (Kd.R_new' ho0 (Kd.R_lt (by (with_reducible repeat (first | apply Kd.R_alloc | apply Kd.R_drewN | apply Kd.R_drew)); exact HO169.out))) (below_size (by repeat (first | (with_reducible first | exact HB.out | apply below_alloc | apply pw_below_drewN | apply below_drew1) | exact HB.out)))); have n6_ := Aside0.mk (below_step (by repeat (first | (with_reducible first | exact HB.out | apply below_alloc | apply pw_below_drewN | apply below_drew1) | exact HB.out)) hb); clear HO157; clear HO160; clear HO163; clear HO166; clear HO169; clear HB; have HO157 := n0_; have HO160 := n1_; have HO163 := n2_; have HO166 := n3_; have HO169 := n4_; have HO174 := n5_; have HB := n6_; clear n0_ n1_ n2_ n3_ n4_ n5_ n6_; (try clear hb); (try clear hb2); (try clear hk); (try clear hi); (try clear ho0)) | ((with_reducible refine gate_dst (N := 10) rfl ?_); (try (refine gate_guard (by rfl) ?_; dsimp only)); refine box_event ?hg (N := 10) ?hd (cs := #[.int .i64 0, .string (⟨#[]⟩ : ByteArray)]) (t := 30) ?hr ?_; (case hd => rfl); (case hg => rfl); (case hr => first | (go_simp; done) | (go_simp; rfl)); intro gb176 hg w48 hbox hb; have n0_ := Aside0.mk (Kd.V_below (Kd.V_elderB (by (with_reducible repeat (first | apply Kd.V_alloc | apply Kd.V_drewN | apply Kd.V_drew)); exact HO157.out) gb176 (Nat.le_of_eq hg.symm)) hb); have n1_ := Aside0.mk (Kd.V_below (Kd.V_elderB (by (with_reducible repeat (first | apply Kd.V_alloc | apply Kd.V_drewN | apply Kd.V_drew)); exact HO160.out) gb176 (Nat.le_of_eq hg.symm)) hb); have n2_ := Aside0.mk (Kd.R_below (by (with_reducible repeat (first | apply Kd.R_alloc | apply Kd.R_drewN | apply Kd.R_drew)); exact HO163.out) hb); have n3_ := Aside0.mk (Kd.R_below (Kd.R_elderB (by (with_reducible repeat (first | apply Kd.R_alloc | apply Kd.R_drewN | apply Kd.R_drew)); exact HO166.out) gb176 (Nat.le_of_eq hg.symm)) hb); have n4_ := Aside0.mk (Kd.R_below (by (with_reducible repeat (first | apply Kd.R_alloc | apply Kd.R_drewN | apply Kd.R_drew)); exact HO169.out) hb); have n5_ := Aside0.mk (Kd.R_below (by (with_reducible repeat (first | apply Kd.R_alloc | apply Kd.R_drewN | apply Kd.R_drew)); exact HO174.out) hb); have n6_ := Aside0.mk (below_step (by repeat (first | (with_reducible first | exact HB.out | apply below_alloc | apply pw_below_drewN | apply below_drew1) | exact HB.out)) hb); have n7_ := Aside0.mk (hbox); have n8_ := Aside0.mk ((by rw [hg]; exact (below_size (by repeat (first | (with_reducible first | exact HB.out | apply below_alloc | apply pw_below_drewN | apply below_drew1) | exact HB.out))) : w.heap.size ≤ gb176)); have n9_ := Aside0.mk ((by rw [hg]; exact (below_size (by repeat (first | (with_reducible first | exact HB.out | apply below_alloc | apply pw_below_drewN | apply below_drew1) | exact HB.out))) : w.heap.size ≤ gb176)); clear HO157; clear HO160; clear HO163; clear HO166; clear HO169; clear HO174; clear HB; have HO157 := n0_; have HO160 := n1_; have HO163 := n2_; have HO166 := n3_; have HO169 := n4_; have HO174 := n5_; have HB := n6_; have BK176 := n7_; have GW176 := n8_; have GE176 := n9_; clear n0_ n1_ n2_ n3_ n4_ n5_ n6_ n7_ n8_ n9_; clear hb hbox hg; have hcz49_0 : w48.cell? ⟨gb176, 0, none⟩ = some (.int .i64 0) := (blk_cell BK176.out 0).trans rfl; have hcz49_1 : w48.cell? ⟨gb176, 1, none⟩ = some (.string (⟨#[]⟩ : ByteArray)) := (blk_cell BK176.out 1).trans rfl; have hfz49_0 := blk_frozen BK176.out 0; have hfz49_1 := blk_frozen BK176.out 1) | ((with_reducible refine gate_dst (N := 43) rfl ?_); (try (refine gate_guard (by rfl) ?_; dsimp only)); refine Kd.R_lit k30 _ 30 ?hg (N := 43) ?hd (xs := ([(⟨2, (⟨#[97]⟩ : ByteArray)⟩ : S30), (⟨15, (⟨#[]⟩ : ByteArray)⟩ : S30)] : List (S30))) (inner := [.int .i64 2, .string (⟨#[97]⟩ : ByteArray), .int .i64 15, .string (⟨#[]⟩ : ByteArray)]) (ok := fun _ => True) (okp := fun _ => True) ?hr ?hp (fun _ hk => hk) trivial (Below.refl _ _) (Nat.le_refl _) (by simp) ?_; (case hd => rfl); (case hg => rfl); (case hr => first | (go_simp; done) | (go_simp; rfl)); (case hp => exact (Reps.c2 (show Kd.M k30 _ _ _ (⟨2, (⟨#[97]⟩ : ByteArray)⟩ : S30) [.int .i64 2, .string (⟨#[97]⟩ : ByteArray)] from (k30_mkM _ _ _ (⟨2, (⟨#[97]⟩ : ByteArray)⟩ : S30) )) (Reps.c2 (show Kd.M k30 _ _ _ (⟨15, (⟨#[]⟩ : ByteArray)⟩ : S30) [.int .i64 15, .string (⟨#[]⟩ : ByteArray)] from (k30_mkM _ _ _ (⟨15, (⟨#[]⟩ : ByteArray)⟩ : S30) )) (Reps.none _ _)))); intro v178 w50 ho51 hb hg_ hnew_; clear hg_ hnew_; (first | rw [← Ny177.out] at ho51 | (simp only [Int.reduceToNat] at ho51; rw [← Ny177.out] at ho51)); have n0_ := Aside0.mk (Kd.V_elder' (by (with_reducible repeat (first | apply Kd.V_alloc | apply Kd.V_drewN | apply Kd.V_drew)); exact (Kd.V_mono (Kd.V_far (p := ⟨gb176, 1, none⟩) (Kd.V_far (p := ⟨gb176, 0, none⟩) (Kd.V_mono HO157.out (fun k_ hk => (⟨hk, hk.2⟩ : _ ∧ k_ ≠ gb176))) (fun _ hk => hk.2) (.int .i64 t170)) (fun _ hk => hk.2) (.string t171)) (fun _ h_ => h_.1))) (Kd.R_base ho51) hb); have n1_ := Aside0.mk (Kd.V_elder' (by (with_reducible repeat (first | apply Kd.V_alloc | apply Kd.V_drewN | apply Kd.V_drew)); exact (Kd.V_mono (Kd.V_far (p := ⟨gb176, 1, none⟩) (Kd.V_far (p := ⟨gb176, 0, none⟩) (Kd.V_mono HO160.out (fun k_ hk => (⟨hk, hk.2⟩ : _ ∧ k_ ≠ gb176))) (fun _ hk => hk.2) (.int .i64 t170)) (fun _ hk => hk.2) (.string t171)) (fun _ h_ => h_.1))) (Kd.R_base ho51) hb); have n2_ := Aside0.mk (Kd.R_below (by (with_reducible repeat (first | apply Kd.R_alloc | apply Kd.R_drewN | apply Kd.R_drew)); exact (Kd.R_mono (Kd.R_far (p := ⟨gb176, 1, none⟩) (Kd.R_far (p := ⟨gb176, 0, none⟩) (Kd.R_types HO163.out BK176.out (by decide)) (fun _ hk => hk.2) (.int .i64 t170)) (fun _ hk => hk.2) (.string t171)) (fun _ h_ => h_.1))) hb); have n3_ := Aside0.mk (Kd.R_elder' (by (with_reducible repeat (first | apply Kd.R_alloc | apply Kd.R_drewN | apply Kd.R_drew)); exact (Kd.R_mono (Kd.R_far (p := ⟨gb176, 1, none⟩) (Kd.R_far (p := ⟨gb176, 0, none⟩) (Kd.R_mono HO166.out (fun k_ hk => (⟨hk, hk.2⟩ : _ ∧ k_ ≠ gb176))) (fun _ hk => hk.2) (.int .i64 t170)) (fun _ hk => hk.2) (.string t171)) (fun _ h_ => h_.1))) (Kd.R_base ho51) hb); have n4_ := Aside0.mk (Kd.R_below (by (with_reducible repeat (first | apply Kd.R_alloc | apply Kd.R_drewN | apply Kd.R_drew)); exact (Kd.R_mono (Kd.R_far (p := ⟨gb176, 1, none⟩) (Kd.R_far (p := ⟨gb176, 0, none⟩) (Kd.R_types HO169.out BK176.out (by decide)) (fun _ hk => hk.2) (.int .i64 t170)) (fun _ hk => hk.2) (.string t171)) (fun _ h_ => h_.1))) hb); have n5_ := Aside0.mk (Kd.R_below (by (with_reducible repeat (first | apply Kd.R_alloc | apply Kd.R_drewN | apply Kd.R_drew)); exact (Kd.R_mono (Kd.R_far (p := ⟨gb176, 1, none⟩) (Kd.R_far (p := ⟨gb176, 0, none⟩) (Kd.R_types HO174.out BK176.out (by decide)) (fun _ hk => hk.2) (.int .i64 t170)) (fun _ hk => hk.2) (.string t171)) (fun _ h_ => h_.1))) hb); have n6_ := Aside0.mk (Kd.R_lower (Kd.R_newB (Kd.R_new' ho51 (Kd.R_lt (by (with_reducible repeat (first | apply Kd.R_alloc | apply Kd.R_drewN | apply Kd.R_drew)); exact (Kd.R_mono (Kd.R_far (p := ⟨gb176, 1, none⟩) (Kd.R_far (p := ⟨gb176, 0, none⟩) (Kd.R_mono HO166.out (fun k_ hk => (⟨hk, hk.2⟩ : _ ∧ k_ ≠ gb176))) (fun _ hk => hk.2) (.int .i64 t170)) (fun _ hk => hk.2) (.string t171)) (fun _ h_ => h_.1))))) (g := gb176) (o := .cells #[.int .i64 t170, .string t171] 30 (0, 0)) (by (with_reducible repeat (first | refine blk_drewN ?_ _ | refine blk_drew ?_ | refine blk_alloc ?_ _)); refine blk_put (cs := #[.int .i64 t170, .string (⟨#[]⟩ : ByteArray)]) ?_ 1 _ rfl; (with_reducible repeat (first | refine blk_drewN ?_ _ | refine blk_drew ?_ | refine blk_alloc ?_ _)); refine blk_put (cs := #[.int .i64 0, .string (⟨#[]⟩ : ByteArray)]) ?_ 0 _ rfl; (with_reducible repeat (first | refine blk_drewN ?_ _ | refine blk_drew ?_ | refine blk_alloc ?_ _)); exact BK176.out)) (below_size (by repeat (first | (with_reducible first | exact HB.out | apply below_alloc | apply pw_below_drewN | apply below_drew1 | refine below_set ?_ GE176.out) | exact HB.out)))); have n7_ := Aside0.mk (blk_below (g := gb176) (o := .cells #[.int .i64 t170, .string t171] 30 (0, 0)) (by (with_reducible repeat (first | refine blk_drewN ?_ _ | refine blk_drew ?_ | refine blk_alloc ?_ _)); refine blk_put (cs := #[.int .i64 t170, .string (⟨#[]⟩ : ByteArray)]) ?_ 1 _ rfl; (with_reducible repeat (first | refine blk_drewN ?_ _ | refine blk_drew ?_ | refine blk_alloc ?_ _)); refine blk_put (cs := #[.int .i64 0, .string (⟨#[]⟩ : ByteArray)]) ?_ 0 _ rfl; (with_reducible repeat (first | refine blk_drewN ?_ _ | refine blk_drew ?_ | refine blk_alloc ?_ _)); exact BK176.out) hb); have n8_ := Aside0.mk (below_step (by repeat (first | (with_reducible first | exact HB.out | apply below_alloc | apply pw_below_drewN | apply below_drew1 | refine below_set ?_ GE176.out) | exact HB.out)) hb); clear HO157; clear HO160; clear HO163; clear HO166; clear HO169; clear HO174; clear BK176; clear HB; have HO157 := n0_; have HO160 := n1_; have HO163 := n2_; have HO166 := n3_; have HO169 := n4_; have HO174 := n5_; have HO179 := n6_; have BK176 := n7_; have HB := n8_; clear n0_ n1_ n2_ n3_ n4_ n5_ n6_ n7_ n8_; clear hb ho51; obtain ⟨Ao52, co52, eo52⟩ := Kd.R_slice HO179.out; subst eo52) | ((with_reducible refine gate_callee (f := 17) rfl ?_); refine goesL_ (some 44) rfl rfl Tryd.func17 (by kernel_rfl) rfl #[.slice none 0 0, .slice Ao52 y177.length co52, .bool false] rfl (by (try simp only [List.map_toArray, List.map_cons, List.map_nil]); first | done | rfl | (simp only [List.length_drop, List.length_take]; rfl)) ?_; (refine (trap_Requests.calls k _ _ ([] : List (S30)) _ _ y177 false t180 _ ?side1 ?side2 ?side3 ?side4 A8.out).mono ?_); (case side1 => exact Kd.C_nil _ _); (case side2 => exact Nat.le_refl _); (case side3 => repeat (first | exact (Kd.R_reads' HO179.out).2.2 | (with_reducible refine Kd.C_alloc ?_ _) | (with_reducible refine Kd.C_drewN ?_ _) | (with_reducible refine Kd.C_drew ?_))); (case side4 => exact (Kd.R_reads' HO179.out).2.1); rintro e w53 ⟨v181, rfl, ho0, hb⟩; refine ⟨_, rfl, ?_⟩; have n0_ := Aside0.mk (Kd.V_elder' (by (with_reducible repeat (first | apply Kd.V_alloc | apply Kd.V_drewN | apply Kd.V_drew)); exact HO157.out) (Kd.S_base ho0) hb); have n1_ := Aside0.mk (Kd.V_elder' (by (with_reducible repeat (first | apply Kd.V_alloc | apply Kd.V_drewN | apply Kd.V_drew)); exact HO160.out) (Kd.S_base ho0) hb); have n2_ := Aside0.mk (Kd.R_below (by (with_reducible repeat (first | apply Kd.R_alloc | apply Kd.R_drewN | apply Kd.R_drew)); exact HO163.out) hb); have n3_ := Aside0.mk (Kd.R_below (by (with_reducible repeat (first | apply Kd.R_alloc | apply Kd.R_drewN | apply Kd.R_drew)); exact HO166.out) hb); have n4_ := Aside0.mk (Kd.R_below (by (with_reducible repeat (first | apply Kd.R_alloc | apply Kd.R_drewN | apply Kd.R_drew)); exact HO169.out) hb); have n5_ := Aside0.mk (Kd.R_below (by (with_reducible repeat (first | apply Kd.R_alloc | apply Kd.R_drewN | apply Kd.R_drew)); exact HO174.out) hb); have n6_ := Aside0.mk (Kd.R_below (by (with_reducible repeat (first | apply Kd.R_alloc | apply Kd.R_drewN | apply Kd.R_drew)); exact HO179.out) hb); have n7_ := Aside0.mk (Kd.S_lower (Kd.S_new' ho0 (Kd.R_lt (by (with_reducible repeat (first | apply Kd.R_alloc | apply Kd.R_drewN | apply Kd.R_drew)); exact HO163.out))) (below_size (by repeat (first | (with_reducible first | exact HB.out | apply below_alloc | apply pw_below_drewN | apply below_drew1 | refine below_set ?_ GE176.out) | exact HB.out)))); have n8_ := Aside0.mk (blk_below (g := gb176) (o := .cells #[.int .i64 t170, .string t171] 30 (0, 0)) (by (with_reducible repeat (first | refine blk_drewN ?_ _ | refine blk_drew ?_ | refine blk_alloc ?_ _)); exact BK176.out) hb); have n9_ := Aside0.mk (below_step (by repeat (first | (with_reducible first | exact HB.out | apply below_alloc | apply pw_below_drewN | apply below_drew1 | refine below_set ?_ GE176.out) | exact HB.out)) hb); clear HO157; clear HO160; clear HO163; clear HO166; clear HO169; clear HO174; clear HO179; clear BK176; clear HB; have HO157 := n0_; have HO160 := n1_; have HO163 := n2_; have HO166 := n3_; have HO169 := n4_; have HO174 := n5_; have HO179 := n6_; have HO182 := n7_; have BK176 := n8_; have HB := n9_; clear n0_ n1_ n2_ n3_ n4_ n5_ n6_ n7_ n8_ n9_; (try clear hb); (try clear hb2); (try clear hk); (try clear hi); (try clear ho0)) | ((with_reducible refine gate_dst (N := 47) rfl ?_); (try (refine gate_guard (by rfl) ?_; dsimp only)); refine Kd.R_lit k30 _ 30 ?hg (N := 47) ?hd (xs := ([(⟨2, (⟨#[97]⟩ : ByteArray)⟩ : S30), (⟨15, (⟨#[]⟩ : ByteArray)⟩ : S30)] : List (S30))) (inner := [.int .i64 2, .string (⟨#[97]⟩ : ByteArray), .int .i64 15, .string (⟨#[]⟩ : ByteArray)]) (ok := fun _ => True) (okp := fun _ => True) ?hr ?hp (fun _ hk => hk) trivial (Below.refl _ _) (Nat.le_refl _) (by simp) ?_; (case hd => rfl); (case hg => rfl); (case hr => first | (go_simp; done) | (go_simp; rfl)); (case hp => exact (Reps.c2 (show Kd.M k30 _ _ _ (⟨2, (⟨#[97]⟩ : ByteArray)⟩ : S30) [.int .i64 2, .string (⟨#[97]⟩ : ByteArray)] from (k30_mkM _ _ _ (⟨2, (⟨#[97]⟩ : ByteArray)⟩ : S30) )) (Reps.c2 (show Kd.M k30 _ _ _ (⟨15, (⟨#[]⟩ : ByteArray)⟩ : S30) [.int .i64 15, .string (⟨#[]⟩ : ByteArray)] from (k30_mkM _ _ _ (⟨15, (⟨#[]⟩ : ByteArray)⟩ : S30) )) (Reps.none _ _)))); intro v184 w54 ho55 hb hg_ hnew_; clear hg_ hnew_; (first | rw [← Ny183.out] at ho55 | (simp only [Int.reduceToNat] at ho55; rw [← Ny183.out] at ho55)); have n0_ := Aside0.mk (Kd.V_elder' (by (with_reducible repeat (first | apply Kd.V_alloc | apply Kd.V_drewN | apply Kd.V_drew)); exact HO157.out) (Kd.R_base ho55) hb); have n1_ := Aside0.mk (Kd.V_elder' (by (with_reducible repeat (first | apply Kd.V_alloc | apply Kd.V_drewN | apply Kd.V_drew)); exact HO160.out) (Kd.R_base ho55) hb); have n2_ := Aside0.mk (Kd.R_below (by (with_reducible repeat (first | apply Kd.R_alloc | apply Kd.R_drewN | apply Kd.R_drew)); exact HO163.out) hb); have n3_ := Aside0.mk (Kd.R_elder' (by (with_reducible repeat (first | apply Kd.R_alloc | apply Kd.R_drewN | apply Kd.R_drew)); exact HO166.out) (Kd.R_base ho55) hb); have n4_ := Aside0.mk (Kd.R_below (by (with_reducible repeat (first | apply Kd.R_alloc | apply Kd.R_drewN | apply Kd.R_drew)); exact HO169.out) hb); have n5_ := Aside0.mk (Kd.R_below (by (with_reducible repeat (first | apply Kd.R_alloc | apply Kd.R_drewN | apply Kd.R_drew)); exact HO174.out) hb); have n6_ := Aside0.mk (Kd.R_elder' (by (with_reducible repeat (first | apply Kd.R_alloc | apply Kd.R_drewN | apply Kd.R_drew)); exact HO179.out) (Kd.R_base ho55) hb); have n7_ := Aside0.mk (Kd.S_below (by (with_reducible repeat (first | apply Kd.S_alloc | apply Kd.S_drewN | apply Kd.S_drew)); exact HO182.out) hb); have n8_ := Aside0.mk (Kd.R_lower (Kd.R_newB (Kd.R_new' (Kd.R_new' ho55 (Kd.R_lt (by (with_reducible repeat (first | apply Kd.R_alloc | apply Kd.R_drewN | apply Kd.R_drew)); exact HO166.out))) (Kd.R_lt (by (with_reducible repeat (first | apply Kd.R_alloc | apply Kd.R_drewN | apply Kd.R_drew)); exact HO179.out))) (g := gb176) (o := .cells #[.int .i64 t170, .string t171] 30 (0, 0)) (by (with_reducible repeat (first | refine blk_drewN ?_ _ | refine blk_drew ?_ | refine blk_alloc ?_ _)); exact BK176.out)) (below_size (by repeat (first | (with_reducible first | exact HB.out | apply below_alloc | apply pw_below_drewN | apply below_drew1 | refine below_set ?_ GE176.out) | exact HB.out)))); have n9_ := Aside0.mk (blk_below (g := gb176) (o := .cells #[.int .i64 t170, .string t171] 30 (0, 0)) (by (with_reducible repeat (first | refine blk_drewN ?_ _ | refine blk_drew ?_ | refine blk_alloc ?_ _)); exact BK176.out) hb); have n10_ := Aside0.mk (below_step (by repeat (first | (with_reducible first | exact HB.out | apply below_alloc | apply pw_below_drewN | apply below_drew1 | refine below_set ?_ GE176.out) | exact HB.out)) hb); clear HO157; clear HO160; clear HO163; clear HO166; clear HO169; clear HO174; clear HO179; clear HO182; clear BK176; clear HB; have HO157 := n0_; have HO160 := n1_; have HO163 := n2_; have HO166 := n3_; have HO169 := n4_; have HO174 := n5_; have HO179 := n6_; have HO182 := n7_; have HO185 := n8_; have BK176 := n9_; have HB := n10_; clear n0_ n1_ n2_ n3_ n4_ n5_ n6_ n7_ n8_ n9_ n10_; clear hb ho55; obtain ⟨Ao56, co56, eo56⟩ := Kd.R_slice HO185.out; subst eo56) | ((with_reducible refine gate_callee (f := 17) rfl ?_); refine goesL_ (some 48) rfl rfl Tryd.func17 (by kernel_rfl) rfl #[.slice none 0 0, .slice Ao56 y183.length co56, .bool true] rfl (by (try simp only [List.map_toArray, List.map_cons, List.map_nil]); first | done | rfl | (simp only [List.length_drop, List.length_take]; rfl)) ?_; (refine (trap_Requests.calls k _ _ ([] : List (S30)) _ _ y183 true t186 _ ?side1 ?side2 ?side3 ?side4 A9.out).mono ?_); (case side1 => exact Kd.C_nil _ _); (case side2 => exact Nat.le_refl _); (case side3 => repeat (first | exact (Kd.R_reads' HO185.out).2.2 | (with_reducible refine Kd.C_alloc ?_ _) | (with_reducible refine Kd.C_drewN ?_ _) | (with_reducible refine Kd.C_drew ?_))); (case side4 => exact (Kd.R_reads' HO185.out).2.1); rintro e w57 ⟨v187, rfl, ho0, hb⟩; refine ⟨_, rfl, ?_⟩; have n0_ := Aside0.mk (Kd.V_elder' (by (with_reducible repeat (first | apply Kd.V_alloc | apply Kd.V_drewN | apply Kd.V_drew)); exact HO157.out) (Kd.S_base ho0) hb); have n1_ := Aside0.mk (Kd.V_elder' (by (with_reducible repeat (first | apply Kd.V_alloc | apply Kd.V_drewN | apply Kd.V_drew)); exact HO160.out) (Kd.S_base ho0) hb); have n2_ := Aside0.mk (Kd.R_below (by (with_reducible repeat (first | apply Kd.R_alloc | apply Kd.R_drewN | apply Kd.R_drew)); exact HO163.out) hb); have n3_ := Aside0.mk (Kd.R_below (by (with_reducible repeat (first | apply Kd.R_alloc | apply Kd.R_drewN | apply Kd.R_drew)); exact HO166.out) hb); have n4_ := Aside0.mk (Kd.R_below (by (with_reducible repeat (first | apply Kd.R_alloc | apply Kd.R_drewN | apply Kd.R_drew)); exact HO169.out) hb); have n5_ := Aside0.mk (Kd.R_below (by (with_reducible repeat (first | apply Kd.R_alloc | apply Kd.R_drewN | apply Kd.R_drew)); exact HO174.out) hb); have n6_ := Aside0.mk (Kd.R_below (by (with_reducible repeat (first | apply Kd.R_alloc | apply Kd.R_drewN | apply Kd.R_drew)); exact HO179.out) hb); have n7_ := Aside0.mk (Kd.S_elder' (by (with_reducible repeat (first | apply Kd.S_alloc | apply Kd.S_drewN | apply Kd.S_drew)); exact HO182.out) (Kd.S_base ho0) hb); have n8_ := Aside0.mk (Kd.R_below (by (with_reducible repeat (first | apply Kd.R_alloc | apply Kd.R_drewN | apply Kd.R_drew)); exact HO185.out) hb); have n9_ := Aside0.mk (Kd.S_lower (Kd.S_new' (Kd.S_new' ho0 (Kd.R_lt (by (with_reducible repeat (first | apply Kd.R_alloc | apply Kd.R_drewN | apply Kd.R_drew)); exact HO163.out))) (Kd.S_lt (by (with_reducible repeat (first | apply Kd.S_alloc | apply Kd.S_drewN | apply Kd.S_drew)); exact HO182.out))) (below_size (by repeat (first | (with_reducible first | exact HB.out | apply below_alloc | apply pw_below_drewN | apply below_drew1 | refine below_set ?_ GE176.out) | exact HB.out)))); have n10_ := Aside0.mk (blk_below (g := gb176) (o := .cells #[.int .i64 t170, .string t171] 30 (0, 0)) (by (with_reducible repeat (first | refine blk_drewN ?_ _ | refine blk_drew ?_ | refine blk_alloc ?_ _)); exact BK176.out) hb); have n11_ := Aside0.mk (below_step (by repeat (first | (with_reducible first | exact HB.out | apply below_alloc | apply pw_below_drewN | apply below_drew1 | refine below_set ?_ GE176.out) | exact HB.out)) hb); clear HO157; clear HO160; clear HO163; clear HO166; clear HO169; clear HO174; clear HO179; clear HO182; clear HO185; clear BK176; clear HB; have HO157 := n0_; have HO160 := n1_; have HO163 := n2_; have HO166 := n3_; have HO169 := n4_; have HO174 := n5_; have HO179 := n6_; have HO182 := n7_; have HO185 := n8_; have HO188 := n9_; have BK176 := n10_; have HB := n11_; clear n0_ n1_ n2_ n3_ n4_ n5_ n6_ n7_ n8_ n9_ n10_ n11_; (try clear hb); (try clear hb2); (try clear hk); (try clear hi); (try clear ho0); obtain ⟨Ao58, co58, eo58⟩ := Kd.R_slice HO163.out; subst eo58; obtain ⟨Ao59, co59, eo59⟩ := Kd.R_slice HO174.out; subst eo59; obtain ⟨Ao60, co60, eo60⟩ := Kd.S_slice HO182.out; subst eo60; obtain ⟨Ao61, co61, eo61⟩ := Kd.S_slice HO188.out; subst eo61; have p189 : 0 ≤ (0 : Int) := (by omega); have q189 : 0 < (t161.length : Int) := of_decide_eq_true (by first | (with_reducible assumption) | assumption); obtain ⟨ad189, e189, hx189_0⟩ := Kd.at_string (Kd.R_reads' HO163.out).2.2 0 p189 q189; cases e189; have qi189 : (0 < t161.length) = True := eq_true (by omega); (try rw [show ((0 : Int)).toNat = 0 from rfl] at hx189_0); (try rw [Addr.add_zero'] at hx189_0); replace p189 := eq_true p189; replace q189 := eq_true q189; have p190 : 0 ≤ (1 : Int) := (by omega); have q190 : 1 < (t161.length : Int) := of_decide_eq_true (by first | (with_reducible assumption) | assumption); obtain ⟨ad190, e190, hx190_0⟩ := Kd.at_string (Kd.R_reads' HO163.out).2.2 1 p190 q190; obtain rfl : ad189 = ad190 := (by injection e190); (try simp only [show (1 : Int).toNat = 1 from rfl, Nat.reduceMul, Nat.reduceEqDiff, Go.Addr.add, ↓reduceIte] at hx190_0); have qi190 : (1 < t161.length) = True := eq_true (by omega); (try rw [show ((1 : Int)).toNat = 1 from rfl] at hx190_0); replace p190 := eq_true p190; replace q190 := eq_true q190; have hcz62_0 : w57.cell? ⟨gb176, 0, none⟩ = some (.int .i64 t170) := (blk_cell BK176.out 0).trans rfl; have hcz62_1 : w57.cell? ⟨gb176, 1, none⟩ = some (.string t171) := (blk_cell BK176.out 1).trans rfl; have hfz62_0 := blk_frozen BK176.out 0; have hfz62_1 := blk_frozen BK176.out 1; have p191 : 0 ≤ (0 : Int) := (by omega); have q191 : 0 < (t172.length : Int) := of_decide_eq_true (by first | (with_reducible assumption) | assumption); obtain ⟨ad191, e191, hx191_0⟩ := Kd.at_int (Kd.R_reads' HO174.out).2.2 0 p191 q191; cases e191; have qi191 : (0 < t172.length) = True := eq_true (by omega); (try rw [show ((0 : Int)).toNat = 0 from rfl] at hx191_0); (try rw [Addr.add_zero'] at hx191_0); replace p191 := eq_true p191; replace q191 := eq_true q191; have p192 : 0 ≤ (0 : Int) := (by omega); have q192 : 0 < (t180.length : Int) := of_decide_eq_true (by first | (with_reducible assumption) | assumption); obtain ⟨ad192, A192_10, c192_10, A192_11, c192_11, e192, hx192_0, hx192_1, hx192_2, hx192_3, hx192_4, hx192_5, hx192_6, hx192_7, hx192_8, hx192_9, hx192_10, hx192_11, hl192_10, hi192_10, hl192_11, hi192_11⟩ := at_T40 (Kd.S_reads' HO182.out).2.2 0 p192 q192; cases e192; obtain ⟨ce192, hce192, hMe192, hcc192⟩ := Kd.S_get HO182.out z40 0 p192 (by first | exact q192 | exact of_decide_eq_true (by first | (with_reducible assumption) | assumption) | (have e_ := (Kd.S_reads' HO182.out).1; omega)); obtain ⟨ve192_10, ve192_11, rfl, ge192_10, ge192_11⟩ := k40_openM hMe192; have hv192_10 := hcc192 10 _ rfl; rw [add_field _ _ 10 (by omega)] at hv192_10; replace hv192_10 := Option.some.inj (hv192_10.symm.trans hx192_10); rw [hv192_10] at ge192_10; have HL192_10 := Aside0.mk (show Kd.R Kd.string 9 _ _ _ _ ((rd_T40 t180 0).f10) from ge192_10); clear hv192_10 ge192_10; have hv192_11 := hcc192 11 _ rfl; rw [add_field _ _ 11 (by omega)] at hv192_11; replace hv192_11 := Option.some.inj (hv192_11.symm.trans hx192_11); rw [hv192_11] at ge192_11; have HL192_11 := Aside0.mk (show Kd.R Kd.string 9 _ _ _ _ ((rd_T40 t180 0).f11) from ge192_11); clear hv192_11 ge192_11; clear hcc192 hce192; have qi192 : (0 < t180.length) = True := eq_true (by omega); (try rw [show ((0 : Int)).toNat = 0 from rfl] at hx192_0); (try rw [show 0 * 12 = 0 from rfl] at hx192_0); (try rw [Addr.add_zero'] at hx192_0); (try rw [show ((0 : Int)).toNat = 0 from rfl] at hx192_1); (try rw [show 0 * 12 = 0 from rfl] at hx192_1); (try rw [Addr.add_zero'] at hx192_1); (try rw [show ((0 : Int)).toNat = 0 from rfl] at hx192_2); (try rw [show 0 * 12 = 0 from rfl] at hx192_2); (try rw [Addr.add_zero'] at hx192_2); (try rw [show ((0 : Int)).toNat = 0 from rfl] at hx192_3); (try rw [show 0 * 12 = 0 from rfl] at hx192_3); (try rw [Addr.add_zero'] at hx192_3); (try rw [show ((0 : Int)).toNat = 0 from rfl] at hx192_4); (try rw [show 0 * 12 = 0 from rfl] at hx192_4); (try rw [Addr.add_zero'] at hx192_4); (try rw [show ((0 : Int)).toNat = 0 from rfl] at hx192_5); (try rw [show 0 * 12 = 0 from rfl] at hx192_5); (try rw [Addr.add_zero'] at hx192_5); (try rw [show ((0 : Int)).toNat = 0 from rfl] at hx192_6); (try rw [show 0 * 12 = 0 from rfl] at hx192_6); (try rw [Addr.add_zero'] at hx192_6); (try rw [show ((0 : Int)).toNat = 0 from rfl] at hx192_7); (try rw [show 0 * 12 = 0 from rfl] at hx192_7); (try rw [Addr.add_zero'] at hx192_7); (try rw [show ((0 : Int)).toNat = 0 from rfl] at hx192_8); (try rw [show 0 * 12 = 0 from rfl] at hx192_8); (try rw [Addr.add_zero'] at hx192_8); (try rw [show ((0 : Int)).toNat = 0 from rfl] at hx192_9); (try rw [show 0 * 12 = 0 from rfl] at hx192_9); (try rw [Addr.add_zero'] at hx192_9); (try rw [show ((0 : Int)).toNat = 0 from rfl] at hx192_10); (try rw [show 0 * 12 = 0 from rfl] at hx192_10); (try rw [Addr.add_zero'] at hx192_10); (try rw [show ((0 : Int)).toNat = 0 from rfl] at hx192_11); (try rw [show 0 * 12 = 0 from rfl] at hx192_11); (try rw [Addr.add_zero'] at hx192_11); have HR192_10 := Aside0.mk hi192_10; have HC192_10 := Aside0.mk hl192_10; clear hi192_10 hl192_10; have HR192_11 := Aside0.mk hi192_11; have HC192_11 := Aside0.mk hl192_11; clear hi192_11 hl192_11; replace p192 := eq_true p192; replace q192 := eq_true q192; have p193 : 0 ≤ (0 : Int) := (by omega); have q193 : 0 < (t180.length : Int) := of_decide_eq_true (by first | (with_reducible assumption) | assumption); obtain ⟨ad193, A193_10, c193_10, A193_11, c193_11, e193, hx193_0, hx193_1, hx193_2, hx193_3, hx193_4, hx193_5, hx193_6, hx193_7, hx193_8, hx193_9, hx193_10, hx193_11, hl193_10, hi193_10, hl193_11, hi193_11⟩ := at_T40 (Kd.S_reads' HO182.out).2.2 0 p193 q193; obtain rfl : ad192 = ad193 := (by injection e193); obtain ⟨ce193, hce193, hMe193, hcc193⟩ := Kd.S_get HO182.out z40 0 p193 (by first | exact q193 | exact of_decide_eq_true (by first | (with_reducible assumption) | assumption) | (have e_ := (Kd.S_reads' HO182.out).1; omega)); obtain ⟨ve193_10, ve193_11, rfl, ge193_10, ge193_11⟩ := k40_openM hMe193; have hv193_10 := hcc193 10 _ rfl; rw [add_field _ _ 10 (by omega)] at hv193_10; replace hv193_10 := Option.some.inj (hv193_10.symm.trans hx193_10); rw [hv193_10] at ge193_10; have HL193_10 := Aside0.mk (show Kd.R Kd.string 9 _ _ _ _ ((rd_T40 t180 0).f10) from ge193_10); clear hv193_10 ge193_10; have hv193_11 := hcc193 11 _ rfl; rw [add_field _ _ 11 (by omega)] at hv193_11; replace hv193_11 := Option.some.inj (hv193_11.symm.trans hx193_11); rw [hv193_11] at ge193_11; have HL193_11 := Aside0.mk (show Kd.R Kd.string 9 _ _ _ _ ((rd_T40 t180 0).f11) from ge193_11); clear hv193_11 ge193_11; clear hcc193 hce193; have qi193 : (0 < t180.length) = True := eq_true (by omega); (try rw [show ((0 : Int)).toNat = 0 from rfl] at hx193_0); (try rw [show 0 * 12 = 0 from rfl] at hx193_0); (try rw [Addr.add_zero'] at hx193_0); (try rw [show ((0 : Int)).toNat = 0 from rfl] at hx193_1); (try rw [show 0 * 12 = 0 from rfl] at hx193_1); (try rw [Addr.add_zero'] at hx193_1); (try rw [show ((0 : Int)).toNat = 0 from rfl] at hx193_2); (try rw [show 0 * 12 = 0 from rfl] at hx193_2); (try rw [Addr.add_zero'] at hx193_2); (try rw [show ((0 : Int)).toNat = 0 from rfl] at hx193_3); (try rw [show 0 * 12 = 0 from rfl] at hx193_3); (try rw [Addr.add_zero'] at hx193_3); (try rw [show ((0 : Int)).toNat = 0 from rfl] at hx193_4); (try rw [show 0 * 12 = 0 from rfl] at hx193_4); (try rw [Addr.add_zero'] at hx193_4); (try rw [show ((0 : Int)).toNat = 0 from rfl] at hx193_5); (try rw [show 0 * 12 = 0 from rfl] at hx193_5); (try rw [Addr.add_zero'] at hx193_5); (try rw [show ((0 : Int)).toNat = 0 from rfl] at hx193_6); (try rw [show 0 * 12 = 0 from rfl] at hx193_6); (try rw [Addr.add_zero'] at hx193_6); (try rw [show ((0 : Int)).toNat = 0 from rfl] at hx193_7); (try rw [show 0 * 12 = 0 from rfl] at hx193_7); (try rw [Addr.add_zero'] at hx193_7); (try rw [show ((0 : Int)).toNat = 0 from rfl] at hx193_8); (try rw [show 0 * 12 = 0 from rfl] at hx193_8); (try rw [Addr.add_zero'] at hx193_8); (try rw [show ((0 : Int)).toNat = 0 from rfl] at hx193_9); (try rw [show 0 * 12 = 0 from rfl] at hx193_9); (try rw [Addr.add_zero'] at hx193_9); (try rw [show ((0 : Int)).toNat = 0 from rfl] at hx193_10); (try rw [show 0 * 12 = 0 from rfl] at hx193_10); (try rw [Addr.add_zero'] at hx193_10); (try rw [show ((0 : Int)).toNat = 0 from rfl] at hx193_11); (try rw [show 0 * 12 = 0 from rfl] at hx193_11); (try rw [Addr.add_zero'] at hx193_11); have HR193_10 := Aside0.mk hi193_10; have HC193_10 := Aside0.mk hl193_10; clear hi193_10 hl193_10; have HR193_11 := Aside0.mk hi193_11; have HC193_11 := Aside0.mk hl193_11; clear hi193_11 hl193_11; replace p193 := eq_true p193; replace q193 := eq_true q193; have ea_ := Option.some.inj (hx192_10.symm.trans hx193_10); injection ea_ with ea_ en_ ec_; subst ea_; subst ec_; clear en_; have ea_ := Option.some.inj (hx192_11.symm.trans hx193_11); injection ea_ with ea_ en_ ec_; subst ea_; subst ec_; clear en_; have p194 : 0 ≤ (0 : Int) := (by omega); have q194 : 0 < (t180.length : Int) := of_decide_eq_true (by first | (with_reducible assumption) | assumption); obtain ⟨ad194, A194_10, c194_10, A194_11, c194_11, e194, hx194_0, hx194_1, hx194_2, hx194_3, hx194_4, hx194_5, hx194_6, hx194_7, hx194_8, hx194_9, hx194_10, hx194_11, hl194_10, hi194_10, hl194_11, hi194_11⟩ := at_T40 (Kd.S_reads' HO182.out).2.2 0 p194 q194; obtain rfl : ad192 = ad194 := (by injection e194); obtain ⟨ce194, hce194, hMe194, hcc194⟩ := Kd.S_get HO182.out z40 0 p194 (by first | exact q194 | exact of_decide_eq_true (by first | (with_reducible assumption) | assumption) | (have e_ := (Kd.S_reads' HO182.out).1; omega)); obtain ⟨ve194_10, ve194_11, rfl, ge194_10, ge194_11⟩ := k40_openM hMe194; have hv194_10 := hcc194 10 _ rfl; rw [add_field _ _ 10 (by omega)] at hv194_10; replace hv194_10 := Option.some.inj (hv194_10.symm.trans hx194_10); rw [hv194_10] at ge194_10; have HL194_10 := Aside0.mk (show Kd.R Kd.string 9 _ _ _ _ ((rd_T40 t180 0).f10) from ge194_10); clear hv194_10 ge194_10; have hv194_11 := hcc194 11 _ rfl; rw [add_field _ _ 11 (by omega)] at hv194_11; replace hv194_11 := Option.some.inj (hv194_11.symm.trans hx194_11); rw [hv194_11] at ge194_11; have HL194_11 := Aside0.mk (show Kd.R Kd.string 9 _ _ _ _ ((rd_T40 t180 0).f11) from ge194_11); clear hv194_11 ge194_11; clear hcc194 hce194; have qi194 : (0 < t180.length) = True := eq_true (by omega); (try rw [show ((0 : Int)).toNat = 0 from rfl] at hx194_0); (try rw [show 0 * 12 = 0 from rfl] at hx194_0); (try rw [Addr.add_zero'] at hx194_0); (try rw [show ((0 : Int)).toNat = 0 from rfl] at hx194_1); (try rw [show 0 * 12 = 0 from rfl] at hx194_1); (try rw [Addr.add_zero'] at hx194_1); (try rw [show ((0 : Int)).toNat = 0 from rfl] at hx194_2); (try rw [show 0 * 12 = 0 from rfl] at hx194_2); (try rw [Addr.add_zero'] at hx194_2); (try rw [show ((0 : Int)).toNat = 0 from rfl] at hx194_3); (try rw [show 0 * 12 = 0 from rfl] at hx194_3); (try rw [Addr.add_zero'] at hx194_3); (try rw [show ((0 : Int)).toNat = 0 from rfl] at hx194_4); (try rw [show 0 * 12 = 0 from rfl] at hx194_4); (try rw [Addr.add_zero'] at hx194_4); (try rw [show ((0 : Int)).toNat = 0 from rfl] at hx194_5); (try rw [show 0 * 12 = 0 from rfl] at hx194_5); (try rw [Addr.add_zero'] at hx194_5); (try rw [show ((0 : Int)).toNat = 0 from rfl] at hx194_6); (try rw [show 0 * 12 = 0 from rfl] at hx194_6); (try rw [Addr.add_zero'] at hx194_6); (try rw [show ((0 : Int)).toNat = 0 from rfl] at hx194_7); (try rw [show 0 * 12 = 0 from rfl] at hx194_7); (try rw [Addr.add_zero'] at hx194_7); (try rw [show ((0 : Int)).toNat = 0 from rfl] at hx194_8); (try rw [show 0 * 12 = 0 from rfl] at hx194_8); (try rw [Addr.add_zero'] at hx194_8); (try rw [show ((0 : Int)).toNat = 0 from rfl] at hx194_9); (try rw [show 0 * 12 = 0 from rfl] at hx194_9); (try rw [Addr.add_zero'] at hx194_9); (try rw [show ((0 : Int)).toNat = 0 from rfl] at hx194_10); (try rw [show 0 * 12 = 0 from rfl] at hx194_10); (try rw [Addr.add_zero'] at hx194_10); (try rw [show ((0 : Int)).toNat = 0 from rfl] at hx194_11); (try rw [show 0 * 12 = 0 from rfl] at hx194_11); (try rw [Addr.add_zero'] at hx194_11); have HR194_10 := Aside0.mk hi194_10; have HC194_10 := Aside0.mk hl194_10; clear hi194_10 hl194_10; have HR194_11 := Aside0.mk hi194_11; have HC194_11 := Aside0.mk hl194_11; clear hi194_11 hl194_11; replace p194 := eq_true p194; replace q194 := eq_true q194; have ea_ := Option.some.inj (hx192_10.symm.trans hx194_10); injection ea_ with ea_ en_ ec_; subst ea_; subst ec_; clear en_; have ea_ := Option.some.inj (hx192_11.symm.trans hx194_11); injection ea_ with ea_ en_ ec_; subst ea_; subst ec_; clear en_; have p195 : 0 ≤ (1 : Int) := (by omega); have q195 : 1 < (t180.length : Int) := of_decide_eq_true (by first | (with_reducible assumption) | assumption); obtain ⟨ad195, A195_10, c195_10, A195_11, c195_11, e195, hx195_0, hx195_1, hx195_2, hx195_3, hx195_4, hx195_5, hx195_6, hx195_7, hx195_8, hx195_9, hx195_10, hx195_11, hl195_10, hi195_10, hl195_11, hi195_11⟩ := at_T40 (Kd.S_reads' HO182.out).2.2 1 p195 q195; obtain rfl : ad192 = ad195 := (by injection e195); obtain ⟨ce195, hce195, hMe195, hcc195⟩ := Kd.S_get HO182.out z40 1 p195 (by first | exact q195 | exact of_decide_eq_true (by first | (with_reducible assumption) | assumption) | (have e_ := (Kd.S_reads' HO182.out).1; omega)); obtain ⟨ve195_10, ve195_11, rfl, ge195_10, ge195_11⟩ := k40_openM hMe195; have hv195_10 := hcc195 10 _ rfl; rw [add_field _ _ 10 (by omega)] at hv195_10; replace hv195_10 := Option.some.inj (hv195_10.symm.trans hx195_10); rw [hv195_10] at ge195_10; have HL195_10 := Aside0.mk (show Kd.R Kd.string 9 _ _ _ _ ((rd_T40 t180 1).f10) from ge195_10); clear hv195_10 ge195_10; have hv195_11 := hcc195 11 _ rfl; rw [add_field _ _ 11 (by omega)] at hv195_11; replace hv195_11 := Option.some.inj (hv195_11.symm.trans hx195_11); rw [hv195_11] at ge195_11; have HL195_11 := Aside0.mk (show Kd.R Kd.string 9 _ _ _ _ ((rd_T40 t180 1).f11) from ge195_11); clear hv195_11 ge195_11; clear hcc195 hce195; (try simp only [show (1 : Int).toNat = 1 from rfl, Nat.reduceMul, Nat.reduceEqDiff, Go.Addr.add, ↓reduceIte] at hx195_0); (try simp only [show (1 : Int).toNat = 1 from rfl, Nat.reduceMul, Nat.reduceEqDiff, Go.Addr.add, ↓reduceIte] at hx195_1); (try simp only [show (1 : Int).toNat = 1 from rfl, Nat.reduceMul, Nat.reduceEqDiff, Go.Addr.add, ↓reduceIte] at hx195_2); (try simp only [show (1 : Int).toNat = 1 from rfl, Nat.reduceMul, Nat.reduceEqDiff, Go.Addr.add, ↓reduceIte] at hx195_3); (try simp only [show (1 : Int).toNat = 1 from rfl, Nat.reduceMul, Nat.reduceEqDiff, Go.Addr.add, ↓reduceIte] at hx195_4); (try simp only [show (1 : Int).toNat = 1 from rfl, Nat.reduceMul, Nat.reduceEqDiff, Go.Addr.add, ↓reduceIte] at hx195_5); (try simp only [show (1 : Int).toNat = 1 from rfl, Nat.reduceMul, Nat.reduceEqDiff, Go.Addr.add, ↓reduceIte] at hx195_6); (try simp only [show (1 : Int).toNat = 1 from rfl, Nat.reduceMul, Nat.reduceEqDiff, Go.Addr.add, ↓reduceIte] at hx195_7); (try simp only [show (1 : Int).toNat = 1 from rfl, Nat.reduceMul, Nat.reduceEqDiff, Go.Addr.add, ↓reduceIte] at hx195_8); (try simp only [show (1 : Int).toNat = 1 from rfl, Nat.reduceMul, Nat.reduceEqDiff, Go.Addr.add, ↓reduceIte] at hx195_9); (try simp only [show (1 : Int).toNat = 1 from rfl, Nat.reduceMul, Nat.reduceEqDiff, Go.Addr.add, ↓reduceIte] at hx195_10); (try simp only [show (1 : Int).toNat = 1 from rfl, Nat.reduceMul, Nat.reduceEqDiff, Go.Addr.add, ↓reduceIte] at hx195_11); have qi195 : (1 < t180.length) = True := eq_true (by omega); (try rw [show ((1 : Int)).toNat = 1 from rfl] at hx195_0); (try rw [show 1 * 12 = 12 from rfl] at hx195_0); (try rw [show ((1 : Int)).toNat = 1 from rfl] at hx195_1); (try rw [show 1 * 12 = 12 from rfl] at hx195_1); (try rw [show ((1 : Int)).toNat = 1 from rfl] at hx195_2); (try rw [show 1 * 12 = 12 from rfl] at hx195_2); (try rw [show ((1 : Int)).toNat = 1 from rfl] at hx195_3); (try rw [show 1 * 12 = 12 from rfl] at hx195_3); (try rw [show ((1 : Int)).toNat = 1 from rfl] at hx195_4); (try rw [show 1 * 12 = 12 from rfl] at hx195_4); (try rw [show ((1 : Int)).toNat = 1 from rfl] at hx195_5); (try rw [show 1 * 12 = 12 from rfl] at hx195_5); (try rw [show ((1 : Int)).toNat = 1 from rfl] at hx195_6); (try rw [show 1 * 12 = 12 from rfl] at hx195_6); (try rw [show ((1 : Int)).toNat = 1 from rfl] at hx195_7); (try rw [show 1 * 12 = 12 from rfl] at hx195_7); (try rw [show ((1 : Int)).toNat = 1 from rfl] at hx195_8); (try rw [show 1 * 12 = 12 from rfl] at hx195_8); (try rw [show ((1 : Int)).toNat = 1 from rfl] at hx195_9); (try rw [show 1 * 12 = 12 from rfl] at hx195_9); (try rw [show ((1 : Int)).toNat = 1 from rfl] at hx195_10); (try rw [show 1 * 12 = 12 from rfl] at hx195_10); (try rw [show ((1 : Int)).toNat = 1 from rfl] at hx195_11); (try rw [show 1 * 12 = 12 from rfl] at hx195_11); have HR195_10 := Aside0.mk hi195_10; have HC195_10 := Aside0.mk hl195_10; clear hi195_10 hl195_10; have HR195_11 := Aside0.mk hi195_11; have HC195_11 := Aside0.mk hl195_11; clear hi195_11 hl195_11; replace p195 := eq_true p195; replace q195 := eq_true q195; have p196 : 0 ≤ (1 : Int) := (by omega); have q196 : 1 < (t180.length : Int) := of_decide_eq_true (by first | (with_reducible assumption) | assumption); obtain ⟨ad196, A196_10, c196_10, A196_11, c196_11, e196, hx196_0, hx196_1, hx196_2, hx196_3, hx196_4, hx196_5, hx196_6, hx196_7, hx196_8, hx196_9, hx196_10, hx196_11, hl196_10, hi196_10, hl196_11, hi196_11⟩ := at_T40 (Kd.S_reads' HO182.out).2.2 1 p196 q196; obtain rfl : ad192 = ad196 := (by injection e196); obtain ⟨ce196, hce196, hMe196, hcc196⟩ := Kd.S_get HO182.out z40 1 p196 (by first | exact q196 | exact of_decide_eq_true (by first | (with_reducible assumption) | assumption) | (have e_ := (Kd.S_reads' HO182.out).1; omega)); obtain ⟨ve196_10, ve196_11, rfl, ge196_10, ge196_11⟩ := k40_openM hMe196; have hv196_10 := hcc196 10 _ rfl; rw [add_field _ _ 10 (by omega)] at hv196_10; replace hv196_10 := Option.some.inj (hv196_10.symm.trans hx196_10); rw [hv196_10] at ge196_10; have HL196_10 := Aside0.mk (show Kd.R Kd.string 9 _ _ _ _ ((rd_T40 t180 1).f10) from ge196_10); clear hv196_10 ge196_10; have hv196_11 := hcc196 11 _ rfl; rw [add_field _ _ 11 (by omega)] at hv196_11; replace hv196_11 := Option.some.inj (hv196_11.symm.trans hx196_11); rw [hv196_11] at ge196_11; have HL196_11 := Aside0.mk (show Kd.R Kd.string 9 _ _ _ _ ((rd_T40 t180 1).f11) from ge196_11); clear hv196_11 ge196_11; clear hcc196 hce196; (try simp only [show (1 : Int).toNat = 1 from rfl, Nat.reduceMul, Nat.reduceEqDiff, Go.Addr.add, ↓reduceIte] at hx196_0); (try simp only [show (1 : Int).toNat = 1 from rfl, Nat.reduceMul, Nat.reduceEqDiff, Go.Addr.add, ↓reduceIte] at hx196_1); (try simp only [show (1 : Int).toNat = 1 from rfl, Nat.reduceMul, Nat.reduceEqDiff, Go.Addr.add, ↓reduceIte] at hx196_2); (try simp only [show (1 : Int).toNat = 1 from rfl, Nat.reduceMul, Nat.reduceEqDiff, Go.Addr.add, ↓reduceIte] at hx196_3); (try simp only [show (1 : Int).toNat = 1 from rfl, Nat.reduceMul, Nat.reduceEqDiff, Go.Addr.add, ↓reduceIte] at hx196_4); (try simp only [show (1 : Int).toNat = 1 from rfl, Nat.reduceMul, Nat.reduceEqDiff, Go.Addr.add, ↓reduceIte] at hx196_5); (try simp only [show (1 : Int).toNat = 1 from rfl, Nat.reduceMul, Nat.reduceEqDiff, Go.Addr.add, ↓reduceIte] at hx196_6); (try simp only [show (1 : Int).toNat = 1 from rfl, Nat.reduceMul, Nat.reduceEqDiff, Go.Addr.add, ↓reduceIte] at hx196_7); (try simp only [show (1 : Int).toNat = 1 from rfl, Nat.reduceMul, Nat.reduceEqDiff, Go.Addr.add, ↓reduceIte] at hx196_8); (try simp only [show (1 : Int).toNat = 1 from rfl, Nat.reduceMul, Nat.reduceEqDiff, Go.Addr.add, ↓reduceIte] at hx196_9); (try simp only [show (1 : Int).toNat = 1 from rfl, Nat.reduceMul, Nat.reduceEqDiff, Go.Addr.add, ↓reduceIte] at hx196_10); (try simp only [show (1 : Int).toNat = 1 from rfl, Nat.reduceMul, Nat.reduceEqDiff, Go.Addr.add, ↓reduceIte] at hx196_11); have qi196 : (1 < t180.length) = True := eq_true (by omega); (try rw [show ((1 : Int)).toNat = 1 from rfl] at hx196_0); (try rw [show 1 * 12 = 12 from rfl] at hx196_0); (try rw [show ((1 : Int)).toNat = 1 from rfl] at hx196_1); (try rw [show 1 * 12 = 12 from rfl] at hx196_1); (try rw [show ((1 : Int)).toNat = 1 from rfl] at hx196_2); (try rw [show 1 * 12 = 12 from rfl] at hx196_2); (try rw [show ((1 : Int)).toNat = 1 from rfl] at hx196_3); (try rw [show 1 * 12 = 12 from rfl] at hx196_3); (try rw [show ((1 : Int)).toNat = 1 from rfl] at hx196_4); (try rw [show 1 * 12 = 12 from rfl] at hx196_4); (try rw [show ((1 : Int)).toNat = 1 from rfl] at hx196_5); (try rw [show 1 * 12 = 12 from rfl] at hx196_5); (try rw [show ((1 : Int)).toNat = 1 from rfl] at hx196_6); (try rw [show 1 * 12 = 12 from rfl] at hx196_6); (try rw [show ((1 : Int)).toNat = 1 from rfl] at hx196_7); (try rw [show 1 * 12 = 12 from rfl] at hx196_7); (try rw [show ((1 : Int)).toNat = 1 from rfl] at hx196_8); (try rw [show 1 * 12 = 12 from rfl] at hx196_8); (try rw [show ((1 : Int)).toNat = 1 from rfl] at hx196_9); (try rw [show 1 * 12 = 12 from rfl] at hx196_9); (try rw [show ((1 : Int)).toNat = 1 from rfl] at hx196_10); (try rw [show 1 * 12 = 12 from rfl] at hx196_10); (try rw [show ((1 : Int)).toNat = 1 from rfl] at hx196_11); (try rw [show 1 * 12 = 12 from rfl] at hx196_11); have HR196_10 := Aside0.mk hi196_10; have HC196_10 := Aside0.mk hl196_10; clear hi196_10 hl196_10; have HR196_11 := Aside0.mk hi196_11; have HC196_11 := Aside0.mk hl196_11; clear hi196_11 hl196_11; replace p196 := eq_true p196; replace q196 := eq_true q196; have ea_ := Option.some.inj (hx195_10.symm.trans hx196_10); injection ea_ with ea_ en_ ec_; subst ea_; subst ec_; clear en_; have ea_ := Option.some.inj (hx195_11.symm.trans hx196_11); injection ea_ with ea_ en_ ec_; subst ea_; subst ec_; clear en_))
                                                go_ret
                                                exact ⟨by first | rfl | (simp [errW_none, errW_some] <;> rfl) | (simp [*, errW_none, errW_some] <;> rfl), by repeat (first | (with_reducible first | exact HB.out | apply below_alloc | apply pw_below_drewN | apply below_drew1 | refine below_set ?_ GE176.out) | exact HB.out)⟩
                                              · rw [if_neg c32] at H
                                                have c32b0 : (((rd_T40 t180 1).f5) == 15) = false := beq_eq_false_iff_ne.mpr c32
                                                have c32b1 : (((rd_T40 t180 1).f5) != 15) = true := bne_iff_ne.mpr c32
                                                exact absurd ((Option.some.inj H).trans HT.out) (by decide)
                                            · rw [if_neg c31] at H
                                              exact absurd H (by simp)
                                          · rw [if_neg c30] at H
                                            have c30b0 : (((rd_T40 t180 0).f6) == 2) = false := beq_eq_false_iff_ne.mpr c30
                                            have c30b1 : (((rd_T40 t180 0).f6) != 2) = true := bne_iff_ne.mpr c30
                                            exact absurd ((Option.some.inj H).trans HT.out) (by decide)
                                        · rw [if_neg c29] at H
                                          have c29b0 : (((rd_T40 t180 0).f5) == 2) = false := beq_eq_false_iff_ne.mpr c29
                                          have c29b1 : (((rd_T40 t180 0).f5) != 2) = true := bne_iff_ne.mpr c29
                                          exact absurd ((Option.some.inj H).trans HT.out) (by decide)
                                      · rw [if_neg c28] at H
                                        have c28b0 : (((rd_T40 t180 0).f0) == 14) = false := beq_eq_false_iff_ne.mpr c28
                                        have c28b1 : (((rd_T40 t180 0).f0) != 14) = true := bne_iff_ne.mpr c28
                                        exact absurd ((Option.some.inj H).trans HT.out) (by decide)
                                    · rw [if_neg c27] at H
                                      exact absurd H (by simp)
                                  · replace c26 := Bool.eq_false_iff.mpr c26
                                    subst c26
                                    have H1 : (some false) = some r := by rw [if_neg (show ¬ (false = true) by decide)] at H; exact H
                                    clear H
                                    have H := H1
                                    clear H1
                                    exact absurd ((Option.some.inj H).trans HT.out) (by decide)
                                · rw [if_neg c25] at H
                                  have c25b0 : ((rd t172 0) == 15) = false := beq_eq_false_iff_ne.mpr c25
                                  have c25b1 : ((rd t172 0) != 15) = true := bne_iff_ne.mpr c25
                                  exact absurd ((Option.some.inj H).trans HT.out) (by decide)
                              · rw [if_neg c24] at H
                                exact absurd H (by simp)
                            · rw [if_neg c23] at H
                              have c23b0 : (t171.toList == ([97] : List UInt8)) = false := beq_eq_false_iff_ne.mpr c23
                              have c23b1 : (t171.toList != ([97] : List UInt8)) = true := bne_iff_ne.mpr c23
                              exact absurd ((Option.some.inj H).trans HT.out) (by decide)
                          · rw [if_neg c22] at H
                            have c22b0 : ((rdOf ByteArray.empty t161 1).toList == ([116, 114, 97, 112, 32, 45, 45, 32, 39, 101, 99, 104, 111, 32, 104, 105, 39, 32, 73, 78, 84] : List UInt8)) = false := beq_eq_false_iff_ne.mpr c22
                            have c22b1 : ((rdOf ByteArray.empty t161 1).toList != ([116, 114, 97, 112, 32, 45, 45, 32, 39, 101, 99, 104, 111, 32, 104, 105, 39, 32, 73, 78, 84] : List UInt8)) = true := bne_iff_ne.mpr c22
                            exact absurd ((Option.some.inj H).trans HT.out) (by decide)
                        · rw [if_neg c21] at H
                          exact absurd H (by simp)
                      · rw [if_neg c20] at H
                        have c20b0 : ((rdOf ByteArray.empty t161 0).toList == ([116, 114, 97, 112, 32, 45, 45, 32, 39, 39, 32, 69, 88, 73, 84] : List UInt8)) = false := beq_eq_false_iff_ne.mpr c20
                        have c20b1 : ((rdOf ByteArray.empty t161 0).toList != ([116, 114, 97, 112, 32, 45, 45, 32, 39, 39, 32, 69, 88, 73, 84] : List UInt8)) = true := bne_iff_ne.mpr c20
                        exact absurd ((Option.some.inj H).trans HT.out) (by decide)
                    · rw [if_neg c19] at H
                      exact absurd H (by simp)
                · replace c17 := Bool.eq_false_iff.mpr c17
                  subst c17
                  have H1 : (some false) = some r := by rw [if_neg (show ¬ (false = true) by decide)] at H; exact H
                  clear H
                  have H := H1
                  clear H1
                  exact absurd ((Option.some.inj H).trans HT.out) (by decide)
              · rw [if_neg c16] at H
                have c16b0 : (t151 == 0) = false := beq_eq_false_iff_ne.mpr c16
                have c16b1 : (t151 != 0) = true := bne_iff_ne.mpr c16
                exact absurd ((Option.some.inj H).trans HT.out) (by decide)
            · replace c15 := Bool.eq_false_iff.mpr c15
              subst c15
              have H1 : (some false) = some r := by rw [if_neg (show ¬ (false = true) by decide)] at H; exact H
              clear H
              have H := H1
              clear H1
              exact absurd ((Option.some.inj H).trans HT.out) (by decide)
          · rw [if_neg c14] at H
            have c14b0 : (t149 == 2) = false := beq_eq_false_iff_ne.mpr c14
            have c14b1 : (t149 != 2) = true := bne_iff_ne.mpr c14
            exact absurd ((Option.some.inj H).trans HT.out) (by decide)
        · rw [if_neg c13] at H
          have c13b0 : ((t186.length : Int) == 0) = false := beq_eq_false_iff_ne.mpr c13
          have c13b1 : ((t186.length : Int) != 0) = true := bne_iff_ne.mpr c13
          have c13b2 : ¬ (t186 = []) := fun h_ => c13 (by rw [h_]; rfl)
          exact absurd ((Option.some.inj H).trans HT.out) (by decide)
      · rw [if_neg c12] at H
        have c12b0 : ((t180.length : Int) == 2) = false := beq_eq_false_iff_ne.mpr c12
        have c12b1 : ((t180.length : Int) != 2) = true := bne_iff_ne.mpr c12
        exact absurd ((Option.some.inj H).trans HT.out) (by decide)
    · rw [if_neg c11] at H
      have c11b0 : ((t172.length : Int) == 1) = false := beq_eq_false_iff_ne.mpr c11
      have c11b1 : ((t172.length : Int) != 1) = true := bne_iff_ne.mpr c11
      exact absurd ((Option.some.inj H).trans HT.out) (by decide)
  · rw [if_neg c10] at H
    have c10b0 : ((t161.length : Int) == 2) = false := beq_eq_false_iff_ne.mpr c10
    have c10b1 : ((t161.length : Int) != 2) = true := bne_iff_ne.mpr c10
    exact absurd ((Option.some.inj H).trans HT.out) (by decide)
theorem jobshelllaw34_awake.at_k : jobshelllaw34_awake.f 200 = some true := by decide +kernel
theorem jobshelllaw34_awake.is_true (k : Nat) (r : Bool) (h : jobshelllaw34_awake.f k = some r) : r = true :=
  Option.some.inj ((at_rounds jobshelllaw34_awake.mono (Nat.le_max_left k 200) h).symm.trans (at_rounds jobshelllaw34_awake.mono (Nat.le_max_right k 200) jobshelllaw34_awake.at_k))
theorem jobshelllaw34_awake.calls (k : Nat) (r : Bool) (w : World) (h : jobshelllaw34_awake.f k = some r) :
    Calls Tryd.prog 10 #[] w fun e w' => e = .returned (.bool r) ∧ Below w.heap.size w w' := jobshelllaw34_awake.calls_true k r w h (jobshelllaw34_awake.is_true k r h)

/-! ### jobshellref25_Name: function 34 -/
def jobshellref25_Name.f (a0 : Int) : Option (ByteArray) := if a0 = 1 then (some (⟨#[72, 85, 80]⟩ : ByteArray)) else (if a0 = 2 then (some (⟨#[73, 78, 84]⟩ : ByteArray)) else (if a0 = 3 then (some (⟨#[81, 85, 73, 84]⟩ : ByteArray)) else (if a0 = 4 then (some (⟨#[84, 84, 73, 78]⟩ : ByteArray)) else (if a0 = 5 then (some (⟨#[84, 84, 79, 85]⟩ : ByteArray)) else (if a0 = 9 then (some (⟨#[75, 73, 76, 76]⟩ : ByteArray)) else (if a0 = 10 then (some (⟨#[85, 83, 82, 49]⟩ : ByteArray)) else (if a0 = 12 then (some (⟨#[85, 83, 82, 50]⟩ : ByteArray)) else (if a0 = 13 then (some (⟨#[80, 73, 80, 69]⟩ : ByteArray)) else (if a0 = 14 then (some (⟨#[65, 76, 82, 77]⟩ : ByteArray)) else (if a0 = 15 then (some (⟨#[84, 69, 82, 77]⟩ : ByteArray)) else (if a0 = 17 then (some (⟨#[67, 72, 76, 68]⟩ : ByteArray)) else (if a0 = 18 then (some (⟨#[67, 79, 78, 84]⟩ : ByteArray)) else (if a0 = 19 then (some (⟨#[83, 84, 79, 80]⟩ : ByteArray)) else (if a0 = 20 then (some (⟨#[84, 83, 84, 80]⟩ : ByteArray)) else (some (⟨#[]⟩ : ByteArray))))))))))))))))
set_option maxHeartbeats 8000000 in
set_option maxRecDepth 100000 in
theorem jobshellref25_Name.calls (a0 : Int) (r : ByteArray) (w : World) (h : jobshellref25_Name.f a0 = some r) :
    Calls Tryd.prog 34 #[.int .i64 a0] w fun e w' => e = .returned (.string r) ∧ Drawn0 w w' := by
  have H : (if a0 = 1 then (some (⟨#[72, 85, 80]⟩ : ByteArray)) else (if a0 = 2 then (some (⟨#[73, 78, 84]⟩ : ByteArray)) else (if a0 = 3 then (some (⟨#[81, 85, 73, 84]⟩ : ByteArray)) else (if a0 = 4 then (some (⟨#[84, 84, 73, 78]⟩ : ByteArray)) else (if a0 = 5 then (some (⟨#[84, 84, 79, 85]⟩ : ByteArray)) else (if a0 = 9 then (some (⟨#[75, 73, 76, 76]⟩ : ByteArray)) else (if a0 = 10 then (some (⟨#[85, 83, 82, 49]⟩ : ByteArray)) else (if a0 = 12 then (some (⟨#[85, 83, 82, 50]⟩ : ByteArray)) else (if a0 = 13 then (some (⟨#[80, 73, 80, 69]⟩ : ByteArray)) else (if a0 = 14 then (some (⟨#[65, 76, 82, 77]⟩ : ByteArray)) else (if a0 = 15 then (some (⟨#[84, 69, 82, 77]⟩ : ByteArray)) else (if a0 = 17 then (some (⟨#[67, 72, 76, 68]⟩ : ByteArray)) else (if a0 = 18 then (some (⟨#[67, 79, 78, 84]⟩ : ByteArray)) else (if a0 = 19 then (some (⟨#[83, 84, 79, 80]⟩ : ByteArray)) else (if a0 = 20 then (some (⟨#[84, 83, 84, 80]⟩ : ByteArray)) else (some (⟨#[]⟩ : ByteArray))))))))))))))))) = some r := h
  clear h
  by_cases c2 : a0 = 1
  · rw [if_pos c2] at H
    have c2b0 : (a0 == 1) = true := beq_iff_eq.mpr c2
    have c2b1 : (a0 != 1) = false := bne_eq_false_iff_eq.mpr c2
    clear c2
    obtain rfl := Option.some.inj H
    go_enter Tryd.func34, Tryd.ntmps34
    go_wp2
    go_ret
    exact ⟨by first | rfl | (simp; done) | (simp [*]; done) | exact congrArg (fun b => Ending.returned (Value.bool b)) (Ch.bne_nil _), by repeat (first | exact Drawn0.refl _ | apply Drawn0.step)⟩
  · rw [if_neg c2] at H
    have c2b0 : (a0 == 1) = false := beq_eq_false_iff_ne.mpr c2
    have c2b1 : (a0 != 1) = true := bne_iff_ne.mpr c2
    by_cases c3 : a0 = 2
    · rw [if_pos c3] at H
      have c3b0 : (a0 == 2) = true := beq_iff_eq.mpr c3
      have c3b1 : (a0 != 2) = false := bne_eq_false_iff_eq.mpr c3
      clear c3
      obtain rfl := Option.some.inj H
      go_enter Tryd.func34, Tryd.ntmps34
      go_wp2
      go_ret
      exact ⟨by first | rfl | (simp; done) | (simp [*]; done) | exact congrArg (fun b => Ending.returned (Value.bool b)) (Ch.bne_nil _), by repeat (first | exact Drawn0.refl _ | apply Drawn0.step)⟩
    · rw [if_neg c3] at H
      have c3b0 : (a0 == 2) = false := beq_eq_false_iff_ne.mpr c3
      have c3b1 : (a0 != 2) = true := bne_iff_ne.mpr c3
      by_cases c4 : a0 = 3
      · rw [if_pos c4] at H
        have c4b0 : (a0 == 3) = true := beq_iff_eq.mpr c4
        have c4b1 : (a0 != 3) = false := bne_eq_false_iff_eq.mpr c4
        clear c4
        obtain rfl := Option.some.inj H
        go_enter Tryd.func34, Tryd.ntmps34
        go_wp2
        go_ret
        exact ⟨by first | rfl | (simp; done) | (simp [*]; done) | exact congrArg (fun b => Ending.returned (Value.bool b)) (Ch.bne_nil _), by repeat (first | exact Drawn0.refl _ | apply Drawn0.step)⟩
      · rw [if_neg c4] at H
        have c4b0 : (a0 == 3) = false := beq_eq_false_iff_ne.mpr c4
        have c4b1 : (a0 != 3) = true := bne_iff_ne.mpr c4
        by_cases c5 : a0 = 4
        · rw [if_pos c5] at H
          have c5b0 : (a0 == 4) = true := beq_iff_eq.mpr c5
          have c5b1 : (a0 != 4) = false := bne_eq_false_iff_eq.mpr c5
          clear c5
          obtain rfl := Option.some.inj H
          go_enter Tryd.func34, Tryd.ntmps34
          go_wp2
          go_ret
          exact ⟨by first | rfl | (simp; done) | (simp [*]; done) | exact congrArg (fun b => Ending.returned (Value.bool b)) (Ch.bne_nil _), by repeat (first | exact Drawn0.refl _ | apply Drawn0.step)⟩
        · rw [if_neg c5] at H
          have c5b0 : (a0 == 4) = false := beq_eq_false_iff_ne.mpr c5
          have c5b1 : (a0 != 4) = true := bne_iff_ne.mpr c5
          by_cases c6 : a0 = 5
          · rw [if_pos c6] at H
            have c6b0 : (a0 == 5) = true := beq_iff_eq.mpr c6
            have c6b1 : (a0 != 5) = false := bne_eq_false_iff_eq.mpr c6
            clear c6
            obtain rfl := Option.some.inj H
            go_enter Tryd.func34, Tryd.ntmps34
            go_wp2
            go_ret
            exact ⟨by first | rfl | (simp; done) | (simp [*]; done) | exact congrArg (fun b => Ending.returned (Value.bool b)) (Ch.bne_nil _), by repeat (first | exact Drawn0.refl _ | apply Drawn0.step)⟩
          · rw [if_neg c6] at H
            have c6b0 : (a0 == 5) = false := beq_eq_false_iff_ne.mpr c6
            have c6b1 : (a0 != 5) = true := bne_iff_ne.mpr c6
            by_cases c7 : a0 = 9
            · rw [if_pos c7] at H
              have c7b0 : (a0 == 9) = true := beq_iff_eq.mpr c7
              have c7b1 : (a0 != 9) = false := bne_eq_false_iff_eq.mpr c7
              clear c7
              obtain rfl := Option.some.inj H
              go_enter Tryd.func34, Tryd.ntmps34
              go_wp2
              go_ret
              exact ⟨by first | rfl | (simp; done) | (simp [*]; done) | exact congrArg (fun b => Ending.returned (Value.bool b)) (Ch.bne_nil _), by repeat (first | exact Drawn0.refl _ | apply Drawn0.step)⟩
            · rw [if_neg c7] at H
              have c7b0 : (a0 == 9) = false := beq_eq_false_iff_ne.mpr c7
              have c7b1 : (a0 != 9) = true := bne_iff_ne.mpr c7
              by_cases c8 : a0 = 10
              · rw [if_pos c8] at H
                have c8b0 : (a0 == 10) = true := beq_iff_eq.mpr c8
                have c8b1 : (a0 != 10) = false := bne_eq_false_iff_eq.mpr c8
                clear c8
                obtain rfl := Option.some.inj H
                go_enter Tryd.func34, Tryd.ntmps34
                go_wp2
                go_ret
                exact ⟨by first | rfl | (simp; done) | (simp [*]; done) | exact congrArg (fun b => Ending.returned (Value.bool b)) (Ch.bne_nil _), by repeat (first | exact Drawn0.refl _ | apply Drawn0.step)⟩
              · rw [if_neg c8] at H
                have c8b0 : (a0 == 10) = false := beq_eq_false_iff_ne.mpr c8
                have c8b1 : (a0 != 10) = true := bne_iff_ne.mpr c8
                by_cases c9 : a0 = 12
                · rw [if_pos c9] at H
                  have c9b0 : (a0 == 12) = true := beq_iff_eq.mpr c9
                  have c9b1 : (a0 != 12) = false := bne_eq_false_iff_eq.mpr c9
                  clear c9
                  obtain rfl := Option.some.inj H
                  go_enter Tryd.func34, Tryd.ntmps34
                  go_wp2
                  go_ret
                  exact ⟨by first | rfl | (simp; done) | (simp [*]; done) | exact congrArg (fun b => Ending.returned (Value.bool b)) (Ch.bne_nil _), by repeat (first | exact Drawn0.refl _ | apply Drawn0.step)⟩
                · rw [if_neg c9] at H
                  have c9b0 : (a0 == 12) = false := beq_eq_false_iff_ne.mpr c9
                  have c9b1 : (a0 != 12) = true := bne_iff_ne.mpr c9
                  by_cases c10 : a0 = 13
                  · rw [if_pos c10] at H
                    have c10b0 : (a0 == 13) = true := beq_iff_eq.mpr c10
                    have c10b1 : (a0 != 13) = false := bne_eq_false_iff_eq.mpr c10
                    clear c10
                    obtain rfl := Option.some.inj H
                    go_enter Tryd.func34, Tryd.ntmps34
                    go_wp2
                    go_ret
                    exact ⟨by first | rfl | (simp; done) | (simp [*]; done) | exact congrArg (fun b => Ending.returned (Value.bool b)) (Ch.bne_nil _), by repeat (first | exact Drawn0.refl _ | apply Drawn0.step)⟩
                  · rw [if_neg c10] at H
                    have c10b0 : (a0 == 13) = false := beq_eq_false_iff_ne.mpr c10
                    have c10b1 : (a0 != 13) = true := bne_iff_ne.mpr c10
                    by_cases c11 : a0 = 14
                    · rw [if_pos c11] at H
                      have c11b0 : (a0 == 14) = true := beq_iff_eq.mpr c11
                      have c11b1 : (a0 != 14) = false := bne_eq_false_iff_eq.mpr c11
                      clear c11
                      obtain rfl := Option.some.inj H
                      go_enter Tryd.func34, Tryd.ntmps34
                      go_wp2
                      go_ret
                      exact ⟨by first | rfl | (simp; done) | (simp [*]; done) | exact congrArg (fun b => Ending.returned (Value.bool b)) (Ch.bne_nil _), by repeat (first | exact Drawn0.refl _ | apply Drawn0.step)⟩
                    · rw [if_neg c11] at H
                      have c11b0 : (a0 == 14) = false := beq_eq_false_iff_ne.mpr c11
                      have c11b1 : (a0 != 14) = true := bne_iff_ne.mpr c11
                      by_cases c12 : a0 = 15
                      · rw [if_pos c12] at H
                        have c12b0 : (a0 == 15) = true := beq_iff_eq.mpr c12
                        have c12b1 : (a0 != 15) = false := bne_eq_false_iff_eq.mpr c12
                        clear c12
                        obtain rfl := Option.some.inj H
                        go_enter Tryd.func34, Tryd.ntmps34
                        go_wp2
                        go_ret
                        exact ⟨by first | rfl | (simp; done) | (simp [*]; done) | exact congrArg (fun b => Ending.returned (Value.bool b)) (Ch.bne_nil _), by repeat (first | exact Drawn0.refl _ | apply Drawn0.step)⟩
                      · rw [if_neg c12] at H
                        have c12b0 : (a0 == 15) = false := beq_eq_false_iff_ne.mpr c12
                        have c12b1 : (a0 != 15) = true := bne_iff_ne.mpr c12
                        by_cases c13 : a0 = 17
                        · rw [if_pos c13] at H
                          have c13b0 : (a0 == 17) = true := beq_iff_eq.mpr c13
                          have c13b1 : (a0 != 17) = false := bne_eq_false_iff_eq.mpr c13
                          clear c13
                          obtain rfl := Option.some.inj H
                          go_enter Tryd.func34, Tryd.ntmps34
                          go_wp2
                          go_ret
                          exact ⟨by first | rfl | (simp; done) | (simp [*]; done) | exact congrArg (fun b => Ending.returned (Value.bool b)) (Ch.bne_nil _), by repeat (first | exact Drawn0.refl _ | apply Drawn0.step)⟩
                        · rw [if_neg c13] at H
                          have c13b0 : (a0 == 17) = false := beq_eq_false_iff_ne.mpr c13
                          have c13b1 : (a0 != 17) = true := bne_iff_ne.mpr c13
                          by_cases c14 : a0 = 18
                          · rw [if_pos c14] at H
                            have c14b0 : (a0 == 18) = true := beq_iff_eq.mpr c14
                            have c14b1 : (a0 != 18) = false := bne_eq_false_iff_eq.mpr c14
                            clear c14
                            obtain rfl := Option.some.inj H
                            go_enter Tryd.func34, Tryd.ntmps34
                            go_wp2
                            go_ret
                            exact ⟨by first | rfl | (simp; done) | (simp [*]; done) | exact congrArg (fun b => Ending.returned (Value.bool b)) (Ch.bne_nil _), by repeat (first | exact Drawn0.refl _ | apply Drawn0.step)⟩
                          · rw [if_neg c14] at H
                            have c14b0 : (a0 == 18) = false := beq_eq_false_iff_ne.mpr c14
                            have c14b1 : (a0 != 18) = true := bne_iff_ne.mpr c14
                            by_cases c15 : a0 = 19
                            · rw [if_pos c15] at H
                              have c15b0 : (a0 == 19) = true := beq_iff_eq.mpr c15
                              have c15b1 : (a0 != 19) = false := bne_eq_false_iff_eq.mpr c15
                              clear c15
                              obtain rfl := Option.some.inj H
                              go_enter Tryd.func34, Tryd.ntmps34
                              go_wp2
                              go_ret
                              exact ⟨by first | rfl | (simp; done) | (simp [*]; done) | exact congrArg (fun b => Ending.returned (Value.bool b)) (Ch.bne_nil _), by repeat (first | exact Drawn0.refl _ | apply Drawn0.step)⟩
                            · rw [if_neg c15] at H
                              have c15b0 : (a0 == 19) = false := beq_eq_false_iff_ne.mpr c15
                              have c15b1 : (a0 != 19) = true := bne_iff_ne.mpr c15
                              by_cases c16 : a0 = 20
                              · rw [if_pos c16] at H
                                have c16b0 : (a0 == 20) = true := beq_iff_eq.mpr c16
                                have c16b1 : (a0 != 20) = false := bne_eq_false_iff_eq.mpr c16
                                clear c16
                                obtain rfl := Option.some.inj H
                                go_enter Tryd.func34, Tryd.ntmps34
                                go_wp2
                                go_ret
                                exact ⟨by first | rfl | (simp; done) | (simp [*]; done) | exact congrArg (fun b => Ending.returned (Value.bool b)) (Ch.bne_nil _), by repeat (first | exact Drawn0.refl _ | apply Drawn0.step)⟩
                              · rw [if_neg c16] at H
                                have c16b0 : (a0 == 20) = false := beq_eq_false_iff_ne.mpr c16
                                have c16b1 : (a0 != 20) = true := bne_iff_ne.mpr c16
                                obtain rfl := Option.some.inj H
                                go_enter Tryd.func34, Tryd.ntmps34
                                go_wp2
                                go_ret
                                exact ⟨by first | rfl | (simp; done) | (simp [*]; done) | exact congrArg (fun b => Ending.returned (Value.bool b)) (Ch.bne_nil _), by repeat (first | exact Drawn0.refl _ | apply Drawn0.step)⟩

/-! ### jobshellref25_Number: function 35 -/
def jobshellref25_Number.l0 : Nat → ByteArray → Int → Option (Int × Bool)
  | 0, _, _ => none
  | k + 1, x0, x4 => if x4 ≤ 20 then ((jobshellref25_Name.f x4).bind fun t197 => (if t197.toList = ([] : List UInt8) then (jobshellref25_Number.l0 k x0 (wrap64 (x4 + 1))) else ((jobshellref25_Name.f x4).bind fun t198 => (if x0.toList = t198.toList then (some (x4, true)) else ((strconv_Itoa.f x4).bind fun t199 => (if x0.toList = t199.toList then (some (x4, true)) else (jobshellref25_Number.l0 k x0 (wrap64 (x4 + 1))))))))) else (some (0, false))
def jobshellref25_Number.f (k : Nat) (a0 : ByteArray) : Option (Int × Bool) := jobshellref25_Number.l0 k a0 1
theorem jobshellref25_Number.mono_l : ∀ k, (∀ y0 y1, LeO (jobshellref25_Number.l0 k y0 y1) (jobshellref25_Number.l0 (k + 1) y0 y1))
  | 0 => fun _ _ r h => by simp [jobshellref25_Number.l0] at h
  | k + 1 => by
    have ih0 := jobshellref25_Number.mono_l k
    · intro y0 y1
      unfold jobshellref25_Number.l0
      repeat' first
      | (with_reducible exact ih0 _ _)
      | (with_reducible exact LeO.refl _)
      | (with_reducible exact LeO.none _)
      | (with_reducible refine LeO.ite ?_ ?_)
      | (with_reducible refine LeO.bind ?_ (fun _ => ?_))
      | exact ih0 _ _
      | exact LeO.none _
      | refine LeO.ite ?_ ?_
      | refine LeO.bind ?_ (fun _ => ?_)
theorem jobshellref25_Number.mono : ∀ a0 k, LeO (jobshellref25_Number.f k a0) (jobshellref25_Number.f (k + 1) a0) := by
  intro a0 k
  have ih0 := jobshellref25_Number.mono_l k
  unfold jobshellref25_Number.f
  repeat' first
      | (with_reducible exact ih0 _ _)
      | (with_reducible exact LeO.refl _)
      | (with_reducible exact LeO.none _)
      | (with_reducible refine LeO.ite ?_ ?_)
      | (with_reducible refine LeO.bind ?_ (fun _ => ?_))
      | exact ih0 _ _
      | exact LeO.none _
      | refine LeO.ite ?_ ?_
      | refine LeO.bind ?_ (fun _ => ?_)
set_option maxHeartbeats 8000000 in
set_option maxRecDepth 100000 in
theorem jobshellref25_Number.calls (k : Nat) (a0 : ByteArray) (r1 : Int) (r2 : Bool) (w : World) (h : jobshellref25_Number.f k a0 = some (r1, r2)) :
    Calls Tryd.prog 35 #[.string a0] w fun e w' => e = .returned (.tuple #[.int .i64 r1, .bool r2]) ∧ Drawn0 w w' := by
  have H : (jobshellref25_Number.l0 k a0 1) = some (r1, r2) := h
  clear h
  have H' := Aside0.mk H
  clear H
  go_enter Tryd.func35, Tryd.ntmps35
  go_wp2
  go_loopg [4] k (fun kq v4 w' => ∃ (x4_1 : Int), v4 = .int .i64 x4_1 ∧ Aside0 (jobshellref25_Number.l0 kq a0 x4_1 = some (r1, r2)) ∧ Aside0 (kq ≤ k) ∧ Drawn0 w w')
  case atStart => exact ⟨(1), (by first | rfl | (simp; done) | (simp [*]; done) | exact congrArg (fun b => Ending.returned (Value.bool b)) (Ch.bne_nil _)), H', ⟨Nat.le_refl _⟩, by repeat (first | exact Drawn0.refl _ | apply Drawn0.step)⟩
  case round =>
    clear H'
    obtain ⟨x4_1, rfl, HA, HK1, ⟨m1, rfl⟩⟩ := hrel
    cases gk with
    | zero => exact absurd HA.out (by simp [jobshellref25_Number.l0])
    | succ k1 =>
      have H := HA.out
      clear HA
      simp only [jobshellref25_Number.l0] at H
      by_cases c2 : x4_1 ≤ 20
      · rw [if_pos c2] at H
        have c2b0 : decide (x4_1 ≤ 20) = true := decide_eq_true c2
        clear c2
        replace H := Option.bind_eq_some_iff.mp H
        obtain ⟨t197, A30, H⟩ := H
        replace H : (if t197.toList = ([] : List UInt8) then (jobshellref25_Number.l0 k1 a0 (wrap64 (x4_1 + 1))) else ((jobshellref25_Name.f x4_1).bind fun t198 => (if a0.toList = t198.toList then (some (x4_1, true)) else ((strconv_Itoa.f x4_1).bind fun t199 => (if a0.toList = t199.toList then (some (x4_1, true)) else (jobshellref25_Number.l0 k1 a0 (wrap64 (x4_1 + 1)))))))) = some (r1, r2) := H
        have A3 := Aside0.mk A30
        clear A30
        by_cases c4 : t197.toList = ([] : List UInt8)
        · rw [if_pos c4] at H
          have c4b0 : (t197.toList == ([] : List UInt8)) = true := beq_iff_eq.mpr c4
          have c4b1 : (t197.toList != ([] : List UInt8)) = false := bne_eq_false_iff_eq.mpr c4
          clear c4
          have H' := Aside0.mk H
          clear H
          go_wp2_with (first | ((with_reducible refine gate_callee (f := 34) rfl ?_); refine goesL_ (some 10) rfl rfl Tryd.func34 (by kernel_rfl) rfl #[.int .i64 x4_1] rfl (by (try simp only [List.map_toArray, List.map_cons, List.map_nil]); first | done | rfl | (simp only [List.length_drop, List.length_take]; rfl)) ?_; (with_reducible refine (jobshellref25_Name.calls x4_1 t197 _ A3.out).mono ?_); rintro e w' ⟨rfl, ⟨nd, rfl⟩⟩; refine ⟨_, rfl, ?_⟩))
          go_roundg k1
          case measure => have := HK1.out; omega
          case rel => exact ⟨(wrap64 (x4_1 + 1)), (by first | rfl | (simp; done) | (simp [*]; done) | exact congrArg (fun b => Ending.returned (Value.bool b)) (Ch.bne_nil _)), H', ⟨by have := HK1.out; omega⟩, by repeat (first | exact Drawn0.refl _ | apply Drawn0.step)⟩
        · rw [if_neg c4] at H
          have c4b0 : (t197.toList == ([] : List UInt8)) = false := beq_eq_false_iff_ne.mpr c4
          have c4b1 : (t197.toList != ([] : List UInt8)) = true := bne_iff_ne.mpr c4
          replace H := Option.bind_eq_some_iff.mp H
          obtain ⟨t198, A50, H⟩ := H
          replace H : (if a0.toList = t198.toList then (some (x4_1, true)) else ((strconv_Itoa.f x4_1).bind fun t199 => (if a0.toList = t199.toList then (some (x4_1, true)) else (jobshellref25_Number.l0 k1 a0 (wrap64 (x4_1 + 1)))))) = some (r1, r2) := H
          have A5 := Aside0.mk A50
          clear A50
          by_cases c6 : a0.toList = t198.toList
          · rw [if_pos c6] at H
            have c6b0 : (a0.toList == t198.toList) = true := beq_iff_eq.mpr c6
            have c6b1 : (a0.toList != t198.toList) = false := bne_eq_false_iff_eq.mpr c6
            clear c6
            simp only [Option.some.injEq, Prod.mk.injEq] at H
            obtain ⟨rfl, rfl⟩ := H
            go_wp2_with (first | ((with_reducible refine gate_callee (f := 34) rfl ?_); refine goesL_ (some 10) rfl rfl Tryd.func34 (by kernel_rfl) rfl #[.int .i64 x4_1] rfl (by (try simp only [List.map_toArray, List.map_cons, List.map_nil]); first | done | rfl | (simp only [List.length_drop, List.length_take]; rfl)) ?_; (with_reducible refine (jobshellref25_Name.calls x4_1 t197 _ A3.out).mono ?_); rintro e w' ⟨rfl, ⟨nd, rfl⟩⟩; refine ⟨_, rfl, ?_⟩) | (go_at_call 34; (with_reducible refine (jobshellref25_Name.calls x4_1 t198 _ A5.out).mono ?_); rintro e w' ⟨rfl, ⟨nd, rfl⟩⟩))
            go_ret2
            exact ⟨by first | rfl | (simp; done) | (simp [*]; done) | exact congrArg (fun b => Ending.returned (Value.bool b)) (Ch.bne_nil _), by repeat (first | exact Drawn0.refl _ | apply Drawn0.step)⟩
          · rw [if_neg c6] at H
            have c6b0 : (a0.toList == t198.toList) = false := beq_eq_false_iff_ne.mpr c6
            have c6b1 : (a0.toList != t198.toList) = true := bne_iff_ne.mpr c6
            replace H := Option.bind_eq_some_iff.mp H
            obtain ⟨t199, A70, H⟩ := H
            replace H : (if a0.toList = t199.toList then (some (x4_1, true)) else (jobshellref25_Number.l0 k1 a0 (wrap64 (x4_1 + 1)))) = some (r1, r2) := H
            have A7 := Aside0.mk A70
            clear A70
            by_cases c8 : a0.toList = t199.toList
            · rw [if_pos c8] at H
              have c8b0 : (a0.toList == t199.toList) = true := beq_iff_eq.mpr c8
              have c8b1 : (a0.toList != t199.toList) = false := bne_eq_false_iff_eq.mpr c8
              clear c8
              simp only [Option.some.injEq, Prod.mk.injEq] at H
              obtain ⟨rfl, rfl⟩ := H
              go_wp2_with (first | ((with_reducible refine gate_callee (f := 34) rfl ?_); refine goesL_ (some 10) rfl rfl Tryd.func34 (by kernel_rfl) rfl #[.int .i64 x4_1] rfl (by (try simp only [List.map_toArray, List.map_cons, List.map_nil]); first | done | rfl | (simp only [List.length_drop, List.length_take]; rfl)) ?_; (with_reducible refine (jobshellref25_Name.calls x4_1 t197 _ A3.out).mono ?_); rintro e w' ⟨rfl, ⟨nd, rfl⟩⟩; refine ⟨_, rfl, ?_⟩) | (go_at_call 34; (with_reducible refine (jobshellref25_Name.calls x4_1 t198 _ A5.out).mono ?_); rintro e w' ⟨rfl, ⟨nd, rfl⟩⟩) | (go_at_call 42; (with_reducible refine (strconv_Itoa.calls x4_1 t199 _ A7.out).mono ?_); rintro e w' ⟨rfl, ⟨nd, rfl⟩⟩))
              go_ret2
              exact ⟨by first | rfl | (simp; done) | (simp [*]; done) | exact congrArg (fun b => Ending.returned (Value.bool b)) (Ch.bne_nil _), by repeat (first | exact Drawn0.refl _ | apply Drawn0.step)⟩
            · rw [if_neg c8] at H
              have c8b0 : (a0.toList == t199.toList) = false := beq_eq_false_iff_ne.mpr c8
              have c8b1 : (a0.toList != t199.toList) = true := bne_iff_ne.mpr c8
              have H' := Aside0.mk H
              clear H
              go_wp2_with (first | ((with_reducible refine gate_callee (f := 34) rfl ?_); refine goesL_ (some 10) rfl rfl Tryd.func34 (by kernel_rfl) rfl #[.int .i64 x4_1] rfl (by (try simp only [List.map_toArray, List.map_cons, List.map_nil]); first | done | rfl | (simp only [List.length_drop, List.length_take]; rfl)) ?_; (with_reducible refine (jobshellref25_Name.calls x4_1 t197 _ A3.out).mono ?_); rintro e w' ⟨rfl, ⟨nd, rfl⟩⟩; refine ⟨_, rfl, ?_⟩) | (go_at_call 34; (with_reducible refine (jobshellref25_Name.calls x4_1 t198 _ A5.out).mono ?_); rintro e w' ⟨rfl, ⟨nd, rfl⟩⟩) | (go_at_call 42; (with_reducible refine (strconv_Itoa.calls x4_1 t199 _ A7.out).mono ?_); rintro e w' ⟨rfl, ⟨nd, rfl⟩⟩))
              go_roundg k1
              case measure => have := HK1.out; omega
              case rel => exact ⟨(wrap64 (x4_1 + 1)), (by first | rfl | (simp; done) | (simp [*]; done) | exact congrArg (fun b => Ending.returned (Value.bool b)) (Ch.bne_nil _)), H', ⟨by have := HK1.out; omega⟩, by repeat (first | exact Drawn0.refl _ | apply Drawn0.step)⟩
      · rw [if_neg c2] at H
        have c2b0 : decide (x4_1 ≤ 20) = false := decide_eq_false c2
        clear c2
        simp only [Option.some.injEq, Prod.mk.injEq] at H
        obtain ⟨rfl, rfl⟩ := H
        go_wp2
        go_ret2
        exact ⟨by first | rfl | (simp; done) | (simp [*]; done) | exact congrArg (fun b => Ending.returned (Value.bool b)) (Ch.bne_nil _), by repeat (first | exact Drawn0.refl _ | apply Drawn0.step)⟩

end Go.Proofs.YtphgcpoefpogfaaDoor.PS
