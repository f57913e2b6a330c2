/- signal.Name: the table of the signals' names. -/
import Derived.Test.YtphgcpoefpogfaaDoorProg
import Derived.WalkKit
import Derived.BigCall
import Derived.Lib.Hide
import Derived.Laws.Tables
import Derived.KernelRfl
namespace Go.Proofs.YtphgcpoefpogfaaDoor.Sg
open Go.RowKit
def sigName (n : Int) : ByteArray :=
  if n = 1 then ⟨#[72, 85, 80]⟩ else if n = 2 then ⟨#[73, 78, 84]⟩ else if n = 3 then ⟨#[81, 85, 73, 84]⟩ else if n = 4 then ⟨#[84, 84, 73, 78]⟩ else if n = 5 then ⟨#[84, 84, 79, 85]⟩
  else if n = 9 then ⟨#[75, 73, 76, 76]⟩ else if n = 10 then ⟨#[85, 83, 82, 49]⟩ else if n = 12 then ⟨#[85, 83, 82, 50]⟩ else if n = 13 then ⟨#[80, 73, 80, 69]⟩ else if n = 14 then ⟨#[65, 76, 82, 77]⟩
  else if n = 15 then ⟨#[84, 69, 82, 77]⟩ else if n = 17 then ⟨#[67, 72, 76, 68]⟩ else if n = 18 then ⟨#[67, 79, 78, 84]⟩ else if n = 19 then ⟨#[83, 84, 79, 80]⟩ else if n = 20 then ⟨#[84, 83, 84, 80]⟩ else ⟨#[]⟩
theorem sigName_out {n : Int} (h : n < 0 ∨ 20 < n) : sigName n = ⟨#[]⟩ := by
  unfold sigName
  repeat rw [if_neg (by omega)]
theorem setRow_alloc (w : World) (a b : Array Value) (t : TypeId) : (w.alloc (.cells a t)).setRow w.heap.size b = w.alloc (.cells b t) := by
  unfold World.setRow World.alloc
  congr 1
  apply Array.ext
  · simp
  · intro i h1 h2
    simp only [Array.getElem_modify, Array.getElem_push]
    have hs : (w.heap.push (.cells b t)).size = w.heap.size + 1 := by simp
    by_cases hi : i < w.heap.size
    · rw [dif_pos hi, dif_pos hi, if_neg (by omega)]
    · rw [dif_neg hi, dif_neg hi, if_pos (by omega)]
theorem hsize : (Tryd.prog.info? 58).map (·.size) = some 21 := by kernel_rfl
theorem rs {x y : ByteArray} (h : y = x) : Ending.returned (.string x) = Ending.returned (.string y) := by rw [h]

set_option maxHeartbeats 8000000 in
set_option maxRecDepth 100000 in
theorem name_walk (n : Int) (w : World) : Calls Tryd.prog 33 #[.int .i64 n] w fun e w' => e = .returned (.string (sigName n)) ∧ Below w.heap.size w w' := by
  by_cases h : n < 0 ∨ 20 < n
  · have E := Lib.hid (sigName_out h)
    rcases h with h | h
    · go_enter Tryd.func33, Tryd.ntmps33
      go_wp2_with (refine wpList_store_row rfl 58 (.tmp 3) (.tmp 4) rfl w.heap.size _ rfl rfl 58 _ (heap_alloc_new w _) (by exact hsize) (by rfl) (by kernel_rfl) ?_; rw [setRow_alloc])
      go_ret
      exact ⟨rs E.out, by repeat (first | exact Below.refl _ _ | apply Below.setCell | apply Below.alloc | simp)⟩
    · have h' : ¬ n < 0 := by omega
      go_enter Tryd.func33, Tryd.ntmps33
      go_wp2_with (refine wpList_store_row rfl 58 (.tmp 3) (.tmp 4) rfl w.heap.size _ rfl rfl 58 _ (heap_alloc_new w _) (by exact hsize) (by rfl) (by kernel_rfl) ?_; rw [setRow_alloc])
      go_ret
      exact ⟨rs E.out, by repeat (first | exact Below.refl _ _ | apply Below.setCell | apply Below.alloc | simp)⟩
  · have hc : n = 0 ∨ n = 1 ∨ n = 2 ∨ n = 3 ∨ n = 4 ∨ n = 5 ∨ n = 6 ∨ n = 7 ∨ n = 8 ∨ n = 9 ∨ n = 10 ∨ n = 11 ∨ n = 12 ∨ n = 13 ∨ n = 14 ∨ n = 15 ∨ n = 16 ∨ n = 17 ∨ n = 18 ∨ n = 19 ∨ n = 20 := by omega
    clear h
    rcases hc with rfl | rfl | rfl | rfl | rfl | rfl | rfl | rfl | rfl | rfl | rfl | rfl | rfl | rfl | rfl | rfl | rfl | rfl | rfl | rfl | rfl
    all_goals
      go_enter Tryd.func33, Tryd.ntmps33
      go_wp2_with (refine wpList_store_row rfl 58 (.tmp 3) (.tmp 4) rfl w.heap.size _ rfl rfl 58 _ (heap_alloc_new w _) (by exact hsize) (by rfl) (by kernel_rfl) ?_; rw [setRow_alloc])
      go_ret
      exact ⟨rs rfl, by repeat (first | exact Below.refl _ _ | apply Below.setCell | apply Below.alloc | simp)⟩
end Go.Proofs.YtphgcpoefpogfaaDoor.Sg
