/- history.Save, walked: the first number and every line, a line feed behind each. -/
import Derived.Test.YtihibmcfklddeaaDoorBld
import Derived.Test.YtihibmcfklddeaaDoorGl
import Derived.Test.YtihibmcfklddeaaDoorShelf
import Derived.Test.YtihibmcfklddeaaDoorWMore
import Derived.Lib.OthersKept
import Derived.Lib.Hide
import Derived.Deep.LoopGhost
import Derived.Lib.AppendIntMem
namespace Go.Proofs.YtihibmcfklddeaaDoor.HS
set_option linter.unusedVariables false
set_option linter.unusedSimpArgs false
open Go.RowKit Go.Proofs.YtihibmcfklddeaaDoorW.PrintWords Go.Proofs.YtihibmcfklddeaaDoorW.PrintLast Go.Proofs.YtihibmcfklddeaaDoorW.PrintMore

theorem alloc_new (w : World) (o : Obj) : (w.alloc o).heap[w.heap.size]? = some o := by
  show (w.heap.push o)[w.heap.size]? = _
  simp

def linesB : List ByteArray → List UInt8
  | [] => []
  | x :: r => x.data.toList ++ 10 :: linesB r
def saveB (a : Int) (l : List ByteArray) : List UInt8 := Lib.itoa a ++ 10 :: linesB l
theorem linesB_len : ∀ (l : List ByteArray) (m : Nat), (∀ x ∈ l, x.size ≤ m) → (linesB l).length ≤ l.length * (m + 1)
  | [], _, _ => by simp [linesB]
  | x :: r, m, h => by
    have h1 := linesB_len r m fun y hy => h y (List.mem_cons_of_mem _ hy)
    have h2 := h x List.mem_cons_self
    have h3 : x.data.toList.length = x.size := rfl
    simp only [linesB, List.length_append, List.length_cons, h3]
    rw [Nat.add_mul]
    omega

def HasB (w : World) (l : List UInt8) (wr : World) : Prop := Lib.IsBuilder 55 5 w.heap.size w.heap.size (Lib.byteCells l) wr ∧ Below w.heap.size w wr
theorem ws_any (w W : World) (b : Nat) (hbb : w.heap.size = b) (l m : List UInt8) (t : ByteArray) (ht : t.data.toList = m) (h : HasB w l W) (hl : l.length + m.length ≤ 100000000000000) :
    Calls Tryd.prog 38 #[.pointer (some ⟨b, 0, none⟩), .string t] W fun e w' => e = .returned (.tuple #[.int .i64 t.size, .nilIface]) ∧ Aside0 (HasB w (l ++ m) w') := by
  subst ht hbb
  have hsz := Lib.size_eq t
  refine (Tryd.b_WriteString w.heap.size w.heap.size _ t W h.1 (by rw [Lib.byteCells_length]; omega) h.2.size).mono ?_
  rintro e w' ⟨he, h1, hb⟩
  rw [Lib.strCells_eq, ← Lib.byteCells_append] at h1
  exact ⟨he, ⟨.inr h1, h.2.trans hb⟩⟩
theorem str_any (w W : World) (b : Nat) (hbb : w.heap.size = b) (l : List UInt8) (h : HasB w l W) :
    Calls Tryd.prog 40 #[.pointer (some ⟨b, 0, none⟩)] W fun e w' => e = .returned (.string ⟨l.toArray⟩) ∧ Below w.heap.size w w' := by
  subst hbb
  refine (Tryd.Builder_String_any w.heap.size w.heap.size l W h.1 h.2.size).mono ?_
  rintro e w' ⟨he, hb⟩
  exact ⟨he, h.2.trans hb⟩
theorem fresh_has (w W : World) (hb : Below (w.alloc (.cells #[.pointer none, .slice none 0 0] 55)).heap.size (w.alloc (.cells #[.pointer none, .slice none 0 0] 55)) W) : HasB w [] W := by
  refine ⟨.inl ⟨Nat.le_refl _, .slice none 0 0, (hb.block _ (by simp)).trans (alloc_new w _), World.ownsRow_nil _ _ _ _, by simp [Value.ownBlock]⟩, ((Below.refl w.heap.size w).alloc (Nat.le_refl _) _).trans (hb.mono (by simp))⟩
theorem itoa_any (a : Int) (w : World) (hG : Gl w) (h0 : -9223372036854775808 ≤ a) (h1 : a ≤ 9223372036854775807) :
    Calls Tryd.prog 39 #[.int .i64 a] w fun e w' => e = .returned (.string ⟨(Lib.itoa a).toArray⟩) ∧ Below w.heap.size w w' := by
  refine (Tryd.strconv_Itoa a h0 h1 w hG.pow10).mono ?_
  rintro e w' ⟨rfl, k, os, rfl⟩
  exact ⟨rfl, Lib.below_grow w.heap.size w (Nat.le_refl _) k os⟩
theorem cat_list (x : ByteArray) : (x ++ (⟨#[10]⟩ : ByteArray)).data.toList = x.data.toList ++ [10] := by simp
theorem str_of {x y : List UInt8} (h1 : x = y) : Ending.returned (.string ⟨x.toArray⟩) = Ending.returned (.string ⟨y.toArray⟩) := by
  subst h1; rfl
theorem linesB_snoc : ∀ (l : List ByteArray) (k : Nat) (hk : k < l.length), linesB (l.take (k + 1)) = linesB (l.take k) ++ (l[k].data.toList ++ [10])
  | [], k, hk => by simp at hk
  | x :: r, 0, _ => by simp [linesB]
  | x :: r, k + 1, hk => by
    have := linesB_snoc r k (by simpa using hk)
    simp only [List.take_succ_cons, linesB, this, List.getElem_cons_succ, List.append_assoc, List.cons_append]
theorem linesB_le : ∀ (l : List ByteArray) (k : Nat), (linesB (l.take k)).length ≤ (linesB l).length
  | [], k => by simp
  | x :: r, 0 => by simp [linesB]
  | x :: r, k + 1 => by
    have := linesB_le r k
    simp only [List.take_succ_cons, linesB, List.length_append, List.length_cons]
    omega
theorem linesB_at (l : List ByteArray) (k : Nat) (hk : k < l.length) : (linesB (l.take k)).length + l[k].size + 1 ≤ (linesB l).length := by
  have h1 := linesB_le l (k + 1)
  rw [linesB_snoc l k hk] at h1
  have h3 : l[k].data.toList.length = l[k].size := rfl
  simp only [List.length_append, h3, List.length_singleton] at h1
  omega

set_option maxHeartbeats 4000000 in
set_option maxRecDepth 100000 in
theorem save_walk (a : Int) (l : List ByteArray) (A : Option Addr) (c : Nat) (w : World) (hC : Kd.C Kd.string w A l.length l) (hG : Gl w) (h0 : -9223372036854775808 ≤ a) (h1 : a ≤ 9223372036854775807) (hlen : (saveB a l).length ≤ 100000000000000) :
    Calls Tryd.prog 24 #[.agg #[.int .i64 a, .slice A l.length c]] w fun e w' => e = .returned (.string ⟨(saveB a l).toArray⟩) ∧ Below w.heap.size w w' := by
  have hl : l.length ≤ 9223372036854775807 := hC.2.1
  have HC := Aside0.mk hC
  have hI := itoa_any a ((w.alloc (.cells #[.int .i64 a, .slice A l.length c] 24)).alloc (.cells #[.pointer none, .slice none 0 0] 55)) (hG.below (((Below.refl w.heap.size w).alloc (Nat.le_refl _) _).alloc (by simp) _)) h0 h1
  have hln : (Lib.itoa a).length + 1 + (linesB l).length ≤ 100000000000000 := by
    have := hlen
    unfold saveB at this
    simp only [List.length_append, List.length_cons] at this
    omega
  obtain ⟨it, hit⟩ : ∃ it, Lib.itoa a = it := ⟨_, rfl⟩
  have HS := Aside0.mk (show saveB a l = it ++ 10 :: linesB l by unfold saveB; rw [hit])
  rw [hit] at hln hI
  have HLN := Aside0.mk hln
  have hls : it.length ≤ 100000000000000 := by omega
  obtain ⟨ib, hib⟩ : ∃ ib : ByteArray, (⟨it.toArray⟩ : ByteArray) = ib := ⟨_, rfl⟩
  have hsz : ib.size = it.length := by rw [← hib]; simp [ByteArray.size]
  have HIT := Aside0.mk (show ib.data.toList = it by rw [← hib])
  rw [hib] at hI
  have HI := Aside0.mk hI
  clear hib hI
  clear hC hG hlen hit hln h0 h1
  have hu24 := Tryd.underlying24
  have hb1 : Below w.heap.size w (w.alloc (.cells #[.int .i64 a, .slice A l.length c] 24)) := (Below.refl _ w).alloc (Nat.le_refl _) _
  have hk1 := alloc_new w (.cells #[.int .i64 a, .slice A l.length c] 24)
  have HK := Aside0.mk hk1
  clear hk1
  go_enter Tryd.func24, Tryd.ntmps24
  go_wp2_with fail
  all_goals
    refine HI.out.mono ?_
    rintro e w3 ⟨rfl, hb3⟩
    have HH := Aside0.mk (fresh_has _ _ hb3)
    clear hb3
    go_wp2_with fail
    refine (ws_any _ _ _ (World.size_alloc _ _) [] (it ++ [10]) _ (by rw [cat_list, HIT.out]) HH.out (by have := HLN.out; simp; omega)).mono ?_
    rintro e w4 ⟨rfl, h4⟩
    clear HH
    rw [List.nil_append] at h4
    have hbk : w4.heap[w.heap.size]? = some (.cells #[.int .i64 a, .slice A l.length c] 24 (0, 0)) := (h4.out.2.block _ (by simp)).trans HK.out
    have hcz1 : w4.cell? ⟨w.heap.size, 1, none⟩ = some (.slice A l.length c) := (blk_cell hbk 1).trans rfl
    have hfz1 := blk_frozen hbk 1
    go_wp2_with fail
    go_loopw [14] (fun v wr => ∃ k : Nat, v = .int .i64 k ∧ k ≤ l.length ∧ Aside0 (HasB (w.alloc (.cells #[.int .i64 a, .slice A l.length c] 24)) (it ++ [10] ++ linesB (l.take k)) wr)) (fun v _ => (l.length - (intOf v)).toNat)
    case atStart => exact ⟨0, rfl, Nat.zero_le _, by simpa [linesB] using h4⟩
    case round =>
      obtain ⟨k, rfl, hk, hH⟩ := hrel
      clear hbk hcz1 hfz1 h4
      by_cases hlt : k < l.length
      · have hi0 : (k : Int) < (l.length : Int) := by omega
        have hC2 := (Kd.C_below HC.out (hb1.trans (hH.out.2.mono (by simp))))
        obtain ⟨ad, e, hx⟩ := Kd.at_string hC2 (k : Int) (by omega) hi0
        have hrd : rdOf ByteArray.empty l (k : Int) = l[k] := by simp [rdOf, hlt]
        have hsn := linesB_snoc l k hlt
        have hla := linesB_at l k hlt
        obtain ⟨x, hxx⟩ : ∃ x, l[k] = x := ⟨_, rfl⟩
        rw [hrd, hxx, Int.toNat_natCast] at hx
        rw [hxx] at hsn hla
        have HSN := Aside0.mk hsn
        have HLA := Aside0.mk hla
        have hxs : x.size ≤ 100000000000000 := by have := HLN.out; omega
        have hdx : x.data.toList.length = x.size := rfl
        subst e
        clear hC2 hrd hxx hsn hla
        go_wp2_with fail
        refine (ws_any _ _ _ (World.size_alloc _ _) _ (x.data.toList ++ [10]) _ (cat_list x) hH.out (by have := HLN.out; have := HLA.out; simp; omega)).mono ?_
        rintro e w5 ⟨rfl, h5⟩
        go_wp2_with fail
        go_roundw
        case rel => exact ⟨k + 1, by simp, by omega, by rw [HSN.out, ← List.append_assoc]; exact h5⟩
        case measure => simp [intOf]; omega
      · obtain rfl : k = l.length := by omega
        go_wp2_with fail
        refine (str_any _ _ _ (World.size_alloc _ _) _ hH.out).mono ?_
        rintro e w5 ⟨rfl, h5⟩
        go_wp2
        go_ret
        exact ⟨str_of (by simp [HS.out]), hb1.trans (h5.mono (by simp))⟩
end Go.Proofs.YtihibmcfklddeaaDoor.HS
