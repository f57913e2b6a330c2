/- What the given contracts lean on: bounds, and jobs.Update and Find over the plain words. -/
import Derived.Test.YthafbimhmfjcoaaDoorJE
import Derived.Test.YthafbimhmfjcoaaDoorJD
import Derived.Test.YthafbimhmfjcoaaDoorJC
namespace Go.Proofs.YthafbimhmfjcoaaDoor.PE
set_option linter.unusedVariables false
set_option linter.unusedSimpArgs false
open Go.RowKit Go.Proofs.YthafbimhmfjcoaaDoorW.PrintWords Go.Proofs.YthafbimhmfjcoaaDoorW.PrintLast Go.Proofs.YthafbimhmfjcoaaDoorW.PrintMore Go.Proofs.YthafbimhmfjcoaaDoor.JP Go.Proofs.YthafbimhmfjcoaaDoor.PV
def rgB (n : Int) : Bool := decide (-9223372036854775808 ≤ n) && decide (n ≤ 9223372036854775807)
def smB (l : List JP.Jb) : Bool := decide (l.length ≤ 1000) && l.all (fun j => decide (j.f3.length ≤ 1000) && (decide (j.f4.length ≤ 1000) && (decide (j.f5.size ≤ 1000000) && (rgB j.f0 && rgB j.f1))))
def leB (l : List JP.Jb) : Bool := l.all (fun j => decide (j.f3.length ≤ j.f4.length))
theorem smB_iff {l : List JP.Jb} : smB l = true ↔ l.length ≤ 1000 ∧ ∀ j ∈ l, j.f3.length ≤ 1000 ∧ j.f4.length ≤ 1000 ∧ j.f5.size ≤ 1000000 ∧ (-9223372036854775808 ≤ j.f0 ∧ j.f0 ≤ 9223372036854775807) ∧ (-9223372036854775808 ≤ j.f1 ∧ j.f1 ≤ 9223372036854775807) := by
  unfold smB rgB
  simp only [Bool.and_eq_true, decide_eq_true_eq, List.all_eq_true]
theorem smB_SmL {l : List JP.Jb} (h : smB l = true) : SmL l := by
  obtain ⟨h1, h2⟩ := smB_iff.1 h
  exact ⟨by omega, fun j hj => by have := h2 j hj; omega⟩
theorem smB_Rg {l : List JP.Jb} (h : smB l = true) : ∀ j ∈ l, RgJ j := fun j hj => by
  have := (smB_iff.1 h).2 j hj
  exact ⟨this.2.2.2.1, this.2.2.2.2⟩
theorem leB_iff {l : List JP.Jb} : leB l = true ↔ ∀ j ∈ l, j.f3.length ≤ j.f4.length := by
  unfold leB
  simp only [decide_eq_true_eq, List.all_eq_true]
def szJ (l : List JP.Jb) : Bool := decide (l.length ≤ 1000) && l.all (fun j => decide (j.f3.length ≤ 1000) && (decide (j.f4.length ≤ 1000) && decide (j.f5.size ≤ 1000000)))
theorem szJ_SmL {l : List JP.Jb} (h : szJ l = true) : SmL l := by
  unfold szJ at h
  simp only [Bool.and_eq_true, decide_eq_true_eq, List.all_eq_true] at h
  exact ⟨by omega, fun j hj => by have := h.2 j hj; omega⟩
theorem upd_ix (pid s : Int) : ∀ (l : List JP.Jb) (o : Int) (n : Nat), 0 ≤ o → memIx pid o l = o + n → n < l.length → ∀ x, l[n]? = some x →
    updAt pid s l = if (chg pid s x).f2 ≠ x.f2 ∧ (chg pid s x).f2 = 2 then (l.take n ++ l.drop (n + 1)) ++ [chg pid s x] else l.set n (chg pid s x)
  | [], o, n, ho, h, hn, x, hx => by simp at hn
  | j :: r, o, n, ho, h, hn, x, hx => by
    unfold memIx at h
    unfold updAt
    by_cases hb : hasB j.f3 pid = true
    · rw [if_pos hb] at h
      obtain rfl : n = 0 := by omega
      obtain rfl : j = x := by simpa using hx
      rw [if_pos hb]
      unfold moveB
      by_cases hm : (chg pid s j).f2 ≠ j.f2 ∧ (chg pid s j).f2 = 2
      · rw [if_pos hm, if_pos (show (decide ((chg pid s j).f2 ≠ j.f2) && decide ((chg pid s j).f2 = 2)) = true by rw [decide_eq_true hm.1, decide_eq_true hm.2]; rfl)]
        simp
      · rw [if_neg hm, if_neg (fun e => hm (by simpa using e))]
        simp
    · rw [if_neg hb] at h
      rw [if_neg hb]
      cases n with
      | zero =>
        exfalso
        have hne : j :: r ≠ [] := by simp
        have := memIx_ge pid r (o + 1)
        rcases this with h1 | h1 <;> omega
      | succ n =>
        have := upd_ix pid s r (o + 1) n (by omega) (by push_cast at h; omega) (by simpa using hn) x (by simpa using hx)
        rw [this]
        split
        · simp
        · simp
where
  memIx_ge (p : Int) : ∀ (l : List JP.Jb) (i : Int), memIx p i l = -1 ∨ i ≤ memIx p i l
    | [], i => .inl rfl
    | j :: r, i => by
      unfold memIx
      split
      · exact .inr (by omega)
      · rcases memIx_ge p r (i + 1) with h | h
        · exact .inl h
        · exact .inr (by omega)
set_option maxRecDepth 100000 in
theorem update_calls (l : List JP.Jb) (pid s : Int) (P0 : Nat → Prop) (A : Option Addr) (c : Nat) (w : World) (hV : Kd.V k35 35 w w.heap.size P0 (.slice A l.length c) l) (hG : Gl w) (hl : smB l = true) (hle : leB l = true) :
    Calls Tryd.prog 24 #[.slice A l.length c, .int .i64 pid, .int .i64 s] w fun e w' => ∃ v, e = .returned (.tuple #[v, .bool (updP l pid s).2]) ∧ Kd.V k35 35 w' w.heap.size (fun k_ => (P0 k_ ∨ w.heap.size ≤ k_)) v (updP l pid s).1 ∧ Below w.heap.size w w' := by
  have hS := smB_SmL hl
  have hC : Kd.C k35 w A l.length l := (Kd.V_reads' hV).2.2
  have hc : l.length ≤ c := (Kd.V_reads' hV).2.1
  obtain ⟨hm1, hm2, hm3⟩ := memIx_lo pid l 0 (by omega)
  obtain ⟨K1, hK1⟩ := member_ev l pid hS
  obtain ⟨K2, hK2⟩ := valid_ev s
  dsimp only at hK1 hK2
  by_cases hin : memB l pid = true ∧ waitB s = true
  · obtain ⟨n, hn⟩ : ∃ n : Nat, memIx pid 0 l = n := ⟨(memIx pid 0 l).toNat, by have := hm1.2 hin.1; omega⟩
    have hnl : n < l.length := by omega
    obtain ⟨x, hx⟩ : ∃ x, l[n] = x := ⟨_, rfl⟩
    have hx' : l[n]? = some x := by rw [List.getElem?_eq_getElem hnl, hx]
    have hxm : x ∈ l := hx ▸ List.getElem_mem hnl
    have hxl := leB_iff.1 hle x hxm
    have hxs := hS.2 x hxm
    have hix := upd_ix pid (contP s) l 0 n (by omega) (by rw [hn]; omega) hnl x hx'
    have hu : updP l pid s = (updAt pid (contP s) l, true) := by unfold updP; rw [if_pos hin]
    rw [hu]
    obtain ⟨K3, hK3⟩ := kind_ev s
    obtain ⟨K4, hK4⟩ := own_ev l hS
    obtain ⟨K5, hK5⟩ := state_ev (statsP pid (contP s) x.f3 x.f4) (by rw [statsP_len']; omega)
    obtain ⟨k, q1, q2, q3, q4, q5⟩ : ∃ k, K1 ≤ k ∧ K2 ≤ k ∧ K3 ≤ k ∧ K4 ≤ k ∧ K5 ≤ k := ⟨K1 + K2 + K3 + K4 + K5, by omega, by omega, by omega, by omega, by omega⟩
    have hkind : s = 768 ↔ (kindP s).1 = 3 := by
      have hw := hin.2
      rw [kind_wait] at hw
      have hw := of_decide_eq_true hw
      unfold kindP at hw ⊢
      split
      · rename_i h; rw [if_pos h] at hw; simp at hw
      · rename_i h
        rw [if_neg h] at hw
        split
        · rename_i h2; rw [if_pos h2] at hw; simp at hw
        · dsimp only; omega
    have hval : jobs_valid.f k s = some true := by rw [hK2 k q2, hin.2]
    by_cases h7 : s = 768
    · have hcp : contP s = -1 := by unfold contP; rw [if_pos h7]
      rw [hcp] at hix hK5
      refine (upd_in_cont k l pid s A c w hC hc hG (n : Int) (by omega) (by omega) (by rw [hK1 k q1, hn]) hval (kindP s).1 (kindP s).2 (hK3 k q3) (by simpa using hkind.1 h7) x ((rdT l n hnl).trans hx) hxl (hK4 k q4) _ (hK5 k q5) (by have := hS.1; omega) (updAt pid (-1) l) (by rw [hix, Int.toNat_natCast]; rfl)).mono ?_
      rintro e w' ⟨v, rfl, hv, hb⟩
      exact ⟨v, rfl, by rw [hcp]; exact Kd.V_mono hv (fun k hk => .inr hk), hb⟩
    · have hcp : contP s = s := by unfold contP; rw [if_neg h7]
      rw [hcp] at hix hK5
      refine (upd_in_other k l pid s A c w hC hc hG (n : Int) (by omega) (by omega) (by rw [hK1 k q1, hn]) hval (kindP s).1 (kindP s).2 (hK3 k q3) (by rw [beq_eq_false_iff_ne]; exact fun h => h7 (hkind.2 h)) x ((rdT l n hnl).trans hx) hxl (hK4 k q4) _ (hK5 k q5) (by have := hS.1; omega) (updAt pid s l) (by rw [hix, Int.toNat_natCast]; rfl)).mono ?_
      rintro e w' ⟨v, rfl, hv, hb⟩
      exact ⟨v, rfl, by rw [hcp]; exact Kd.V_mono hv (fun k hk => .inr hk), hb⟩
  · have hu : updP l pid s = (l, false) := by unfold updP; rw [if_neg hin]
    rw [hu]
    refine (upd_out (K1 + K2) l pid s A c w hC hc hG _ (hK1 _ (by omega)) ?_).mono ?_
    · by_cases hi : memIx pid 0 l < 0
      · exact .inl hi
      · refine .inr ⟨by omega, ?_⟩
        rw [hK2 _ (by omega)]
        exact congrArg some (Bool.eq_false_iff.2 fun e => hin ⟨hm1.1 (by omega), e⟩)
    · rintro e w' ⟨rfl, hb⟩
      exact ⟨_, rfl, Kd.V_mono (Kd.V_below hV hb) (fun k hk => .inl hk), hb⟩
set_option maxRecDepth 100000 in
theorem find_plain (l : List JP.Jb) (A : Option Addr) (c : Nat) (spec : ByteArray) (w : World) (hC : Kd.C k35 w A l.length l) (hc : l.length ≤ c) (hG : Gl w) (hl : smB l = true) (hsz : spec.size ≤ 1000000) :
    Calls Tryd.prog 13 #[.slice A l.length c, .string spec] w fun e w' => e = .returned (.tuple #[.int .i64 (findP l spec).1, .int .i64 (findP l spec).2]) ∧ Below w.heap.size w w' := by
  have hS := smB_SmL hl
  obtain ⟨K1, hK1⟩ := Current_ev l hS.1
  have hcut := cut_from spec 1
  have hes : (spec.extract 1 spec.size).size ≤ 4611686018427387904 := by
    have : (spec.extract 1 spec.size).size = (spec.extract 1 spec.size).data.toList.length := rfl
    rw [this, hcut, List.length_drop]
    have : spec.data.toList.length = spec.size := rfl
    omega
  obtain ⟨K2, hK2⟩ := digits_ev (spec.extract 1 spec.size) hes
  rw [hcut] at hK2
  exact find_calls (K1 + K2) l A c spec w hC hc hG hS.1 (fun x hx => by have := (hS.2 x hx).2.2; omega) (by omega) (hK1 _ (by omega)) (hK2 _ (by omega))
end Go.Proofs.YthafbimhmfjcoaaDoor.PE
