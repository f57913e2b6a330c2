/- slices.Backward over a slice of strings: the closure's contract, for every loop body that keeps what lay at the loop's start. -/
import Derived.RangeFuncBox
import Derived.RangeFuncLeaves
import Derived.RangeFuncWrites
import Derived.Shelf.Abstract
import Derived.WalkKit
import Derived.OwnWalkIn
import Derived.TacticsInMore
import Derived.LoopNIn
import Derived.LoopIn
import Derived.Test.YtihibmcfklddeaaDoorHSpec
namespace Go.Proofs.YtihibmcfklddeaaDoor.HF
set_option linter.unusedVariables false
set_option linter.unusedSimpArgs false
open Go.RowKit Go.Shelf

attribute [local go_sem] Oper.semAt_some

def enc (l : List ByteArray) (x : Fin l.length) : Array Value := #[.int .i64 (x.1 : Int), .string l[x.1]]
/-- What has come when k rounds are over. -/
def Back (l : List ByteArray) (k : Nat) (pre : List (Fin l.length)) : Prop := pre.map Fin.val = (List.range k).map (fun j => l.length - 1 - j)
theorem Back.nil (l : List ByteArray) : Back l 0 [] := rfl
theorem Back.len {l : List ByteArray} {k : Nat} {pre : List (Fin l.length)} (h : Back l k pre) : pre.length = k := by
  have := congrArg List.length h
  simpa using this
theorem Back.snoc {l : List ByteArray} {j : Nat} (hj : j < l.length) {pre : List (Fin l.length)} (h : Back l (l.length - (j + 1)) pre) : Back l (l.length - j) (pre ++ [⟨j, hj⟩]) := by
  have e : l.length - j = (l.length - (j + 1)) + 1 := by omega
  unfold Back at h ⊢
  rw [e, List.range_succ, List.map_append, List.map_append, h]
  simp
  omega

theorem Back.none {l : List ByteArray} {ys : List (Fin l.length)} (h : Back l l.length ys) {p : ByteArray → Bool} (hp : ∀ x ∈ ys, p l[x.1] = false) : ∀ j (hj : j < l.length), p l[j] = false := by
  intro j hj
  have hm : j ∈ ys.map Fin.val := by
    rw [show ys.map Fin.val = _ from h]
    exact List.mem_map.2 ⟨l.length - 1 - j, List.mem_range.2 (by omega), by omega⟩
  obtain ⟨x, hx, rfl⟩ := List.mem_map.1 hm
  exact hp x hx
theorem Back.some {l : List ByteArray} {k : Nat} {ini : List (Fin l.length)} {x : Fin l.length} (h : Back l k (ini ++ [x])) (hk : k ≤ l.length) {p : ByteArray → Bool} (hp : ∀ y ∈ ini, p l[y.1] = false) (hx : p l[x.1] = true) : lastIx p l = (x.1 : Int) := by
  have hlen := h.len
  have hlen : ini.length + 1 = k := by simpa using hlen
  obtain ⟨k', rfl⟩ : ∃ k', k = k' + 1 := ⟨ini.length, hlen.symm⟩
  unfold Back at h
  rw [List.range_succ, List.map_append, List.map_append] at h
  obtain ⟨h1, h2⟩ := List.append_inj h (by simp; omega)
  have hx' : x.1 = l.length - 1 - k' := by simpa using h2
  refine lastIx_some x.1 x.2 hx fun j hj hlt => ?_
  have hm : j ∈ ini.map Fin.val := by
    rw [h1]
    exact List.mem_map.2 ⟨l.length - 1 - j, List.mem_range.2 (by omega), by omega⟩
  obtain ⟨y, hy, rfl⟩ := List.mem_map.1 hm
  exact hp y hy
theorem addr_add_block (ad : Addr) (j : Nat) : (ad.add j).block = ad.block := by unfold Addr.add; split <;> rfl

set_option maxRecDepth 100000 in
set_option maxHeartbeats 2000000 in
theorem back1 (l : List ByteArray) (lp Bs n₀ : Nat) (ad : Addr) (cap : Nat) (hl : l.length ≤ 9223372036854775807) (hb : ad.block < n₀) (hB : Bs < n₀) (J Jx : List (Fin l.length) → World → Prop)
    (hY : ∀ pre x W, J pre W → pre.length < l.length → YieldAt Fence.wide 1 Tryd.prog lp (enc l x) W fun e W' =>
      (e = .returned (.bool true) ∧ J (pre ++ [x]) W' ∧ Below n₀ W W') ∨ (e = .returned (.bool false) ∧ Jx (pre ++ [x]) W'))
    (W : World) (hBs : W.cell? ⟨Bs, 0, none⟩ = some (.slice (some ad) l.length cap)) (hc : ∀ j (h : j < l.length), W.cell? (ad.add j) = some (.string l[j])) (h0 : J [] W) :
    CallsIn Fence.wide 2 Tryd.prog 67 #[.func (.yield lp) #[] #[], .pointer (some ⟨Bs, 0, none⟩)] W fun e W' => (∃ v, e = .returned v) ∧
      ((∃ ys, Back l l.length ys ∧ J ys W') ∨ (∃ pre, (∃ k, k ≤ l.length ∧ Back l k pre) ∧ Jx pre W')) := by
  refine callsIn_of_wp Tryd.func67 rfl trivial ?_ rfl
  simp only [Tryd.ntmps67, List.size_toArray, List.length_cons, List.length_nil, Nat.reduceAdd, Nat.reduceSub, Array.replicate_succ, Array.replicate_zero, List.push_toArray, List.append_toArray, List.nil_append, List.cons_append]
  gi_wp2
  gi_loopw [3] (fun i wr => ∃ (m : Nat) (pre : List (Fin l.length)), i = .int .i64 ((m : Int) - 1) ∧ m ≤ l.length ∧ Back l (l.length - m) pre ∧ J pre wr ∧ Below n₀ W wr)
    (fun i _ => (intOf i + 1).toNat)
  case atStart => exact ⟨l.length, [], by simp, Nat.le_refl _, by rw [Nat.sub_self]; exact Back.nil l, h0, Below.refl _ _⟩
  case round =>
    obtain ⟨m, pre, rfl, hm, hbk, hJs, hnx⟩ := hrel
    cases m with
    | zero =>
      gi_wp2
      go_end0
      exact ⟨⟨_, rfl⟩, .inl ⟨_, hbk, hJs⟩⟩
    | succ j =>
      have hcx : wr.cell? (ad.add j) = some (.string l[j]) := (hnx.cell (p := ad.add j) (by rw [addr_add_block]; exact hb)).trans (hc j hm)
      have hbx : wr.cell? ⟨Bs, 0, none⟩ = some (.slice (some ad) l.length cap) := (hnx.cell (p := ⟨Bs, 0, none⟩) hB).trans hBs
      obtain ⟨fn, tmps, assign, body, hy, hR⟩ := hY _ ⟨j, hm⟩ wr hJs (by rw [hbk.len]; omega)
      dsimp only [enc] at hy
      rw [show ((j + 1 : Nat) : Int) - 1 = (j : Int) by omega]
      gi_wp2
      refine hR.mono ?_
      rintro e W3 (⟨rfl, hJ3, hk3⟩ | ⟨rfl, hJx3⟩)
      · gi_wp2
        go_roundw
        case rel => exact ⟨j, _, by simp, by omega, hbk.snoc hm, hJ3, hnx.trans hk3⟩
        case measure => simp [intOf]
      · gi_wp2
        refine bodyPost_ret (results_none rfl _ _ _) rfl ?_
        exact ⟨⟨_, rfl⟩, .inr ⟨_, ⟨_, by omega, hbk.snoc hm⟩, hJx3⟩⟩

set_option maxRecDepth 100000 in
set_option maxHeartbeats 1000000 in
theorem back1_nil (lp Bs : Nat) (A : Option Addr) (cap : Nat) (J : World → Prop) (W : World) (hBs : W.cell? ⟨Bs, 0, none⟩ = some (.slice A 0 cap)) (h0 : J W) :
    CallsIn Fence.wide 2 Tryd.prog 67 #[.func (.yield lp) #[] #[], .pointer (some ⟨Bs, 0, none⟩)] W fun e W' => (∃ v, e = .returned v) ∧ J W' := by
  refine callsIn_of_wp Tryd.func67 rfl trivial ?_ rfl
  simp only [Tryd.ntmps67, List.size_toArray, List.length_cons, List.length_nil, Nat.reduceAdd, Nat.reduceSub, Array.replicate_succ, Array.replicate_zero, List.push_toArray, List.append_toArray, List.nil_append, List.cons_append]
  gi_wp2
  gi_loopw [3] (fun i wr => i = .int .i64 (-1) ∧ J wr) (fun _ _ => 0)
  case atStart => exact ⟨by simp, h0⟩
  case round =>
    obtain ⟨rfl, hJs⟩ := hrel
    gi_wp2
    go_end0
    exact ⟨⟨_, rfl⟩, hJs⟩

/-- The slice value's cells, for the loop: none of them turns while nothing below n₀ turns. -/
def Cells (l : List ByteArray) (A : Option Addr) (W : World) (n₀ : Nat) : Prop := l = [] ∨ ∃ ad, A = some ad ∧ ad.block < n₀ ∧ ∀ j (h : j < l.length), W.cell? (ad.add j) = some (.string l[j])

theorem back_stops (l : List ByteArray) (A : Option Addr) (cap Bs : Nat) (hl : l.length ≤ 9223372036854775807) (w : World) (hB : Bs < w.heap.size) (hBs : w.cell? ⟨Bs, 0, none⟩ = some (.slice A l.length cap)) (hc : Cells l A w w.heap.size) :
    SeqStopsK Fence.wide 2 Tryd.prog 67 #[.pointer (some ⟨Bs, 0, none⟩)] (enc l) (Below w.heap.size) (fun ys => Back l l.length ys) (fun pre => ∃ k, k ≤ l.length ∧ Back l k pre) l.length w := fun lp J Jx W hW _ _ hY h0 => by
  have hBs' : W.cell? ⟨Bs, 0, none⟩ = some (.slice A l.length cap) := (hW.cell (p := ⟨Bs, 0, none⟩) hB).trans hBs
  rcases hc with rfl | ⟨ad, rfl, hb, hcs⟩
  · exact (back1_nil lp Bs A cap (J []) W hBs' h0).mono fun e W' ⟨he, hj⟩ => ⟨he, .inl ⟨[], rfl, hj⟩⟩
  · exact back1 l lp Bs w.heap.size ad cap hl hb hB J Jx hY W hBs' (fun j hj => (hW.cell (p := ad.add j) (by rw [addr_add_block]; exact hb)).trans (hcs j hj)) h0

set_option maxHeartbeats 1000000 in
/-- slices.Backward: the slice value is boxed; the function value captures the box. -/
theorem backward_in (a : Option Addr) (len cap : Nat) (w : World) :
    CallsIn Fence.wide 2 Tryd.prog 56 #[.slice a len cap] w fun e w' => e = .returned (.func (.func 67) #[] #[.pointer (some ⟨w.heap.size, 0, none⟩)]) ∧ w' = w.alloc (.cells #[.slice a len cap] 22) := by
  refine callsIn_of_wp Tryd.func56 rfl trivial ?_ rfl
  simp only [Tryd.ntmps56, List.size_toArray, List.length_cons, List.length_nil, Nat.reduceAdd, Nat.reduceSub, Array.replicate_succ, Array.replicate_zero, List.push_toArray, List.append_toArray, List.nil_append, List.cons_append]
  gi_wp2
  go_ret
  exact ⟨rfl, rfl⟩
end Go.Proofs.YtihibmcfklddeaaDoor.HF
