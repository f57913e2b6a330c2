/- history.Load, walked. -/
import Derived.Test.YtihibmcfklddeaaDoorHSave
import Derived.Test.YtihibmcfklddeaaDoorHVPur
import Derived.Lib.AtoiErrMem
import Derived.Deep.QuietTactic
import Derived.BigQuiet
import Derived.Deep.RegionHeld3
namespace Go.Proofs.YtihibmcfklddeaaDoor.HL
set_option linter.unusedVariables false
set_option linter.unusedSimpArgs false
open Go.RowKit Go.Proofs.YtihibmcfklddeaaDoorW.PrintWords Go.Proofs.YtihibmcfklddeaaDoorW.PrintLast Go.Proofs.YtihibmcfklddeaaDoorW.PrintMore

theorem split_any (t : ByteArray) (w : World) (hG : Gl w) (ht : t.size < 4294967281) :
    Calls Tryd.prog 42 #[.string t, .string ⟨#[10]⟩] w fun e w' => e = .returned (.slice (some ⟨w.heap.size, 0, none⟩) (splitL t).length (splitL t).length) ∧ w' = w.alloc (.cells ((splitL t).map Value.string).toArray 9) := by
  obtain ⟨m, hm⟩ := hG.maxLen
  refine (Tryd.strings_Split t ⟨#[10]⟩ m w ht hm (by decide)).mono ?_
  rintro e w' ⟨rfl, rfl⟩
  rw [splitB_L t]
  refine ⟨?_, rfl⟩
  rw [show Lib.countB t ⟨#[10]⟩ + 1 = (splitL t).length from split_len t]
/-- What Atoi hands back: the number, and whether there is an error. -/
def atoiIs (h : ByteArray) (n : Int) (er : Value) : Prop :=
  (∃ v, Lib.atoiAll h.data.toList = .ok v ∧ n = v ∧ er = .nilIface) ∨ ((∀ v, Lib.atoiAll h.data.toList ≠ .ok v) ∧ ∃ q, er = .iface 80 (.pointer (some q)))
theorem atoi_any (h : ByteArray) (w : World) (hG : Gl w) (hs : h.size ≤ 281474976710656) :
    Calls Tryd.prog 44 #[.string h] w fun e w' => ∃ n er, e = .returned (.tuple #[.int .i64 n, er]) ∧ atoiIs h n er ∧ Below w.heap.size w w' := by
  obtain ⟨e1, h1, h1'⟩ := hG.errSyntax
  obtain ⟨e2, h2, h2'⟩ := hG.errRange
  rcases hA : Lib.atoiAll h.data.toList with v | _ | _
  · refine (Tryd.strconv_Atoi_ok h (by omega) v hA w).mono ?_
    rintro e w' ⟨rfl, hw⟩
    refine ⟨_, _, rfl, .inl ⟨v, hA, rfl, rfl⟩, ?_⟩
    rcases hw with rfl | ⟨t, rfl⟩
    · exact Below.refl _ _
    · exact Lib.bytesWorld_below _ _ _
  · refine (Tryd.strconv_Atoi_syntax h hs hA e1 w h1 h1').mono ?_
    rintro e w' ⟨N, rfl, _, _, hb⟩
    exact ⟨_, _, rfl, .inr ⟨fun v hv => (by rw [hA] at hv; cases hv), _, rfl⟩, hb⟩
  · refine (Tryd.strconv_Atoi_range h hs hA e2 w h2 h2').mono ?_
    rintro e w' ⟨N, rfl, _, _, hb⟩
    exact ⟨_, _, rfl, .inr ⟨fun v hv => (by rw [hA] at hv; cases hv), _, rfl⟩, hb⟩

theorem hbk2 (w : World) (o : Obj) {o1 : Obj} : ((w.alloc o1).alloc o).heap[w.heap.size]? = (w.alloc o1).heap[w.heap.size]? := ((Below.refl (w.heap.size + 1) (w.alloc o1)).alloc (by simp) o).block _ (by omega)
theorem itoa_held (n : Int) (w3 : World) (b : Addr) (x : Value) (hG : Gl w3) (h0 : -9223372036854775808 ≤ n) (h1 : n ≤ 9223372036854775807) (W : World) (hS : W.cell? b = some x ∧ Below w3.heap.size w3 W) :
    Calls Tryd.prog 39 #[.int .i64 n] W fun e W' => e = .returned (.string ⟨(Lib.itoa n).toArray⟩) ∧ W'.cell? b = some x ∧ Below w3.heap.size w3 W' := by
  refine (HS.itoa_any n W (hG.below hS.2) h0 h1).mono ?_
  rintro e W' ⟨rfl, hb⟩
  exact ⟨rfl, (hb.cell (World.block_lt_of_cell? W _ hS.1)).trans hS.1, hS.2.trans (hb.mono hS.2.size)⟩
theorem lt_of_some {w : World} {k : Nat} {o : Obj} (h : w.heap[k]? = some o) : k < w.heap.size := (Array.getElem?_eq_some_iff.1 h).1
theorem zero_end {w W : World} {gb : Nat} {x y : Value} {t : Nat} (hge : w.heap.size ≤ gb) (hb : Below w.heap.size w W) (hk : W.heap[gb]? = some (.cells #[x, y] t (0, 0))) (a b : Value) :
    ((W.setCell ⟨gb, 0, none⟩ a).setCell ⟨gb, 1, none⟩ b).heap[gb]? = some (.cells #[a, b] t (0, 0)) ∧ Below w.heap.size w ((W.setCell ⟨gb, 0, none⟩ a).setCell ⟨gb, 1, none⟩ b) :=
  ⟨blk_put (cs := #[a, y]) (blk_put (cs := #[x, y]) hk 0 _ rfl) 1 _ rfl, below_set (below_set hb hge) hge⟩

set_option maxHeartbeats 4000000 in
set_option maxRecDepth 100000 in
theorem load_walk (s : ByteArray) (w : World) (hG : Gl w) (hs : s.size ≤ 100000) :
    Calls Tryd.prog 26 #[.string s] w fun e w' => ∃ v1_ : Value, e = .returned (.tuple #[.agg #[.int .i64 (loadP s).1, v1_], .int .i64 (loadP s).2.2]) ∧ Kd.V Kd.string 9 w' w.heap.size (fun k_ => w.heap.size ≤ k_) v1_ (loadP s).2.1 ∧ Below w.heap.size w w' := by
  have HG := Aside0.mk hG
  clear hG
  have hu24 := Tryd.underlying24
  have hSfx := Tryd.strings_HasSuffix s ⟨#[10]⟩
  obtain ⟨b, hb⟩ : ∃ b, Lib.hasSuffix s.data.toList [10] = b := ⟨_, rfl⟩
  have hSf : ∀ W, Calls Tryd.prog 41 #[.string s, .string ⟨#[10]⟩] W fun e w' => e = .returned (.bool b) ∧ w' = W := fun W => by
    have := hSfx W (by omega)
    rw [show Lib.hasSuffix s.data.toList (⟨#[10]⟩ : ByteArray).data.toList = b from hb] at this
    exact this
  have HSF := Aside0.mk hSf
  clear hSfx hSf
  obtain ⟨gb, hgb⟩ : ∃ gb, w.heap.size = gb := ⟨_, rfl⟩
  have hbk := HS.alloc_new w (.cells #[.int .i64 0, .slice none 0 0] 24)
  have HBK := Aside0.mk hbk
  clear hbk hgb
  cases b with
  | false =>
    have hp : loadP s = (0, [], 28) := by unfold loadP; rw [hb]; rfl
    rw [hp]
    clear hb hp
    go_enter Tryd.func26, Tryd.ntmps26
    go_wp2_with (first | (go_at_call 41; refine (HSF.out _).mono ?_; rintro e w' ⟨rfl, rfl⟩))
    refine bodyPost_ret (results_ct rfl _ _ w.heap.size 24 #[.int .i64 0, .slice none 0 0] (0, 0) _ rfl HBK.out hu24 rfl (by kernel_rfl)) rfl ?_
    exact ⟨_, rfl, Kd.V_nil _ _ _ _ _, (Below.refl w.heap.size w).alloc (Nat.le_refl _) _⟩
  | true =>
    have hTr := Tryd.strings_TrimSuffix s ⟨#[10]⟩
    obtain ⟨t, ht⟩ : ∃ t : ByteArray, (⟨(s.data.toList.take (s.data.toList.length - 1)).toArray⟩ : ByteArray) = t := ⟨_, rfl⟩
    have hts : t.size ≤ s.size := by rw [← ht]; show (List.toArray _).size ≤ _; simp; try (have : s.data.size = s.size := rfl; omega)
    have hTR : ∀ W, Calls Tryd.prog 43 #[.string s, .string ⟨#[10]⟩] W fun e w' => e = .returned (.string t) ∧ w' = W := fun W => by
      have := hTr W (by omega)
      rw [show Lib.trimSuffix s.data.toList (⟨#[10]⟩ : ByteArray).data.toList = s.data.toList.take (s.data.toList.length - 1) by unfold Lib.trimSuffix; rw [show Lib.hasSuffix s.data.toList (⟨#[10]⟩ : ByteArray).data.toList = true from hb]; rfl, ht] at this
      exact this
    have HTR := Aside0.mk hTR
    clear hTr hTR
    have hLp : loadP s = (match splitL t with | [] => (0, [], 6) | h :: r => match numOf h with | none => (0, [], 6) | some n => if validP n r = 0 then (n, r, 0) else (0, [], validP n r)) := by
      unfold loadP
      rw [hb, ht]
      rfl
    clear hb ht
    have hSp := split_any t (w.alloc (.cells #[.int .i64 0, .slice none 0 0] 24)) (HG.out.below ((Below.refl w.heap.size w).alloc (Nat.le_refl _) _)) (by omega)
    have hszs : ∀ x ∈ splitL t, x.size ≤ t.size := split_sizes t
    cases hL : splitL t with
    | nil => exact absurd hL (splitL_ne t)
    | cons h r =>
      have hlen := splitL_len t
      rw [hL] at hSp hLp hszs hlen
      dsimp only at hLp
      obtain ⟨p, hp⟩ : ∃ p, loadP s = p := ⟨_, rfl⟩
      rw [hp] at hLp
      rw [hp]
      have HLP := Aside0.mk hLp
      clear hp
      have HSP := Aside0.mk hSp
      have HSZ := Aside0.mk hszs
      clear hSp hLp hszs hL
      have HAT := Aside0.mk (fun W (hG : Gl W) => atoi_any h W hG (by have := HSZ.out h List.mem_cons_self; omega))
      have HLEN := Aside0.mk hlen
      have hrow := HS.alloc_new (w.alloc (.cells #[.int .i64 0, .slice none 0 0] 24)) (.cells ((h :: r).map Value.string).toArray 9)
      rw [World.size_alloc] at hrow
      have HROW := Aside0.mk hrow
      have hb2 : Below w.heap.size w ((w.alloc (.cells #[.int .i64 0, .slice none 0 0] 24)).alloc (.cells ((h :: r).map Value.string).toArray 9)) := ((Below.refl w.heap.size w).alloc (Nat.le_refl _) _).alloc (by simp) _
      have hc0 := (blk_cell hrow 0).trans (rfl : _ = some (Value.string h))
      have hR : Kd.R Kd.string 9 ((w.alloc (.cells #[.int .i64 0, .slice none 0 0] 24)).alloc (.cells ((h :: r).map Value.string).toArray 9)) w.heap.size (fun k_ => k_ = w.heap.size + 1) (.slice (some ⟨w.heap.size + 1, 0, none⟩) (h :: r).length (h :: r).length) (h :: r) := by
        refine Kd.R_of_own ?_ ?_
        · exact ⟨by simp [encs], .inr ⟨w.heap.size + 1, (h :: r).length, ((h :: r).map Value.string).toArray, rfl, by omega, hrow, Nat.le_refl _, by have := HLEN.out; unfold maxLen; omega, by simp, by simp [encs, List.take_of_length_le]⟩⟩
        · intro k hk
          simp [Value.ownBlock] at hk
          omega
      have HR := Aside0.mk hR
      clear hR hrow
      go_enter Tryd.func26, Tryd.ntmps26
      go_upto_region 5 with (first
        | (go_at_call 41; refine (HSF.out _).mono ?_; rintro e w' ⟨rfl, rfl⟩)
        | (go_at_call 43; refine (HTR.out _).mono ?_; rintro e w' ⟨rfl, rfl⟩)
        | (go_at_call 42; refine HSP.out.mono ?_; rintro e w' ⟨rfl, rfl⟩)
        | (go_at_call 44; refine (HAT.out _ (HG.out.below hb2)).mono ?_; rintro e w3 ⟨n, er, rfl, hat, hb3⟩))
      have hbk3 : w3.heap[w.heap.size]? = some (.cells #[.int .i64 0, .slice none 0 0] 24 (0, 0)) := (hb3.block _ (by simp; omega)).trans ((hbk2 w _).trans HBK.out)
      have hrow3 : w3.heap[w.heap.size + 1]? = some (.cells ((h :: r).map Value.string).toArray 9 (0, 0)) := (hb3.block _ (by simp)).trans HROW.out
      have hR3 := Kd.R_below HR.out hb3
      have hb0 := hb2.trans (hb3.mono hb2.size)
      have HBK3 := Aside0.mk hbk3
      have HROW3 := Aside0.mk hrow3
      have HR3 := Aside0.mk hR3
      have HB0 := Aside0.mk hb0
      clear hbk3 hrow3 hR3 hb0 hb3 HR HROW hb2 HSF HTR HSP hc0 HBK
      have hcz0 : w3.cell? ⟨w.heap.size, 0, none⟩ = some (.int .i64 0) := (blk_cell HBK3.out 0).trans rfl
      have hcz1 : w3.cell? ⟨w.heap.size, 1, none⟩ = some (.slice none 0 0) := (blk_cell HBK3.out 1).trans rfl
      have hfz0 := blk_frozen HBK3.out 0
      have hfz1 := blk_frozen HBK3.out 1
      rcases hat with ⟨v, hA, rfl, rfl⟩ | ⟨hA, q, rfl⟩
      · by_cases c1 : n < 1
        · have hN : numOf h = none := by unfold numOf; rw [hA]; simp only [if_pos c1]
          have hp := HLP.out
          rw [hN] at hp
          dsimp only at hp
          subst hp
          have c1b : decide (n < 1) = true := decide_eq_true c1
          clear hA hN HAT c1
          go_wp2
          go_quiet (fail)
          go_wp2
          obtain ⟨k1, b1⟩ := zero_end (W := w3.drewN nq) (Nat.le_refl _) (pw_below_drewN HB0.out nq) HBK3.out (.int .i64 0) (.slice none 0 0)
          refine bodyPost_ret (results_ct rfl _ _ w.heap.size 24 #[.int .i64 0, .slice none 0 0] (0, 0) _ rfl k1 hu24 rfl (by kernel_rfl)) rfl ?_
          exact ⟨_, rfl, Kd.V_nil _ _ _ _ _, b1⟩
        by_cases c2 : 2147483647 < n
        · have hN : numOf h = none := by unfold numOf; rw [hA]; simp only [if_neg c1, if_pos c2]
          have hp := HLP.out
          rw [hN] at hp
          dsimp only at hp
          subst hp
          have c1b : decide (n < 1) = false := decide_eq_false c1
          have c2b : decide (2147483647 < n) = true := decide_eq_true c2
          clear hA hN HAT c1 c2
          go_wp2
          go_quiet (fail)
          go_wp2
          obtain ⟨k1, b1⟩ := zero_end (W := w3.drewN nq) (Nat.le_refl _) (pw_below_drewN HB0.out nq) HBK3.out (.int .i64 0) (.slice none 0 0)
          refine bodyPost_ret (results_ct rfl _ _ w.heap.size 24 #[.int .i64 0, .slice none 0 0] (0, 0) _ rfl k1 hu24 rfl (by kernel_rfl)) rfl ?_
          exact ⟨_, rfl, Kd.V_nil _ _ _ _ _, b1⟩
        have HGW := Aside0.mk (HG.out.below HB0.out)
        have c1b : decide (n < 1) = false := decide_eq_false c1
        have c2b : decide (2147483647 < n) = false := decide_eq_false c2
        have hcx : w3.cell? ⟨w.heap.size + 1, 0, none⟩ = some (.string h) := (blk_cell HROW3.out 0).trans rfl
        have HI := Aside0.mk (itoa_held n w3 ⟨w.heap.size + 1, 0, none⟩ (.string h) HGW.out (by omega) (by omega))
        obtain ⟨ib, hib⟩ : ∃ ib : ByteArray, (⟨(Lib.itoa n).toArray⟩ : ByteArray) = ib := ⟨_, rfl⟩
        have HI2 := HI.out
        rw [hib] at HI2
        have HI3 := Aside0.mk HI2
        have hbel3 : Below w3.heap.size w3 w3.drew := (Below.refl _ _).drew
        clear HI HI2
        by_cases c3 : ib.data.toList = h.data.toList
        · have hN : numOf h = some n := by
            unfold numOf
            rw [hA]
            simp only [if_neg c1, if_neg c2]
            rw [itoaP_eq n (by omega) (by omega), if_pos]
            rw [← c3, ← hib]
          have hp := HLP.out
          rw [hN] at hp
          dsimp only at hp
          have HP := Aside0.mk hp
          have c3b : (ib.toList == h.toList) = true := by rw [PE.toL, PE.toL]; exact beq_iff_eq.2 c3
          clear hA hN HAT c1 c2 c3 hib hp HLP
          go_wp2
          go_region_held3 (fun W => W.cell? ⟨w.heap.size + 1, 0, none⟩ = some (.string h) ∧ Below w3.heap.size w3 W) (go_keep)
            (first | (go_at_call 39; refine (HI3.out _ ?_).mono ?_; (simp [*]); rintro e w4 ⟨rfl, hcx4, hb4⟩))
          clear hcz0 hcz1 hfz0 hfz1 hcx hcx4 hbel3 HI3
          have hbk4 : w4.heap[w.heap.size]? = some (.cells #[.int .i64 0, .slice none 0 0] 24 (0, 0)) := (hb4.block _ (lt_of_some HBK3.out)).trans HBK3.out
          have hR4 := Kd.R_below HR3.out hb4
          have hb0 := HB0.out.trans (hb4.mono HB0.out.size)
          have HBK4 := Aside0.mk hbk4
          have HR4 := Aside0.mk hR4
          have HB4 := Aside0.mk hb0
          clear hbk4 hR4 hb0 hb4 HBK3 HROW3 HR3 HB0 HGW
          have hr62 := Kd.Q_drop (k := 1) (Kd.Q_of_R HR4.out) (by simp)
          obtain ⟨A62, hA62⟩ : ∃ A1 : Option Addr, (if r = [] then some ⟨w.heap.size + 1, 0, none⟩ else some ⟨w.heap.size + 1, 1, none⟩) = A1 := ⟨_, rfl⟩
          replace hr62 : Kd.Q Kd.string 9 w4 w.heap.size (fun k_ => k_ = w.heap.size + 1) (.slice A62 r.length r.length) r := by
            rw [← hA62]
            rw [show (if (h :: r).length = 1 then (some ⟨w.heap.size + 1, 0, none⟩ : Option Addr) else (some ⟨w.heap.size + 1, 0, none⟩ : Option Addr).map (·.add (1 * Kd.string.sz))) = (if r = [] then some ⟨w.heap.size + 1, 0, none⟩ else some ⟨w.heap.size + 1, 1, none⟩) from by
              rw [show Kd.string.sz = 1 from rfl]
              by_cases h0 : r = []
              · subst h0; rfl
              · have : r.length ≠ 0 := fun e => h0 (List.eq_nil_of_length_eq_zero e)
                rw [if_neg (by simp; omega), if_neg h0]
                rfl] at hr62
            simpa using hr62
          have HQ := Aside0.mk hr62
          have HA62 := Aside0.mk hA62
          clear hr62 hA62
          obtain ⟨ev, hev⟩ : ∃ ev, validP n r = ev := ⟨_, rfl⟩
          have hb5 : Below w4.heap.size w4 (w4.alloc (.cells #[.int .i64 n, .slice A62 r.length r.length] 24)) := (Below.refl _ _).alloc (Nat.le_refl _) _
          have hq5 := Kd.Q_alloc HQ.out (.cells #[.int .i64 n, .slice A62 r.length r.length] 24)
          have hVal := PV.valid_walk n r A62 r.length (w4.alloc (.cells #[.int .i64 n, .slice A62 r.length r.length] 24)) (Kd.Q_reads' hq5).2.2 (Nat.le_refl _) (fun x hx => by have := HSZ.out x (List.mem_cons_of_mem _ hx); omega) (HG.out.below (HB4.out.trans (hb5.mono HB4.out.size)))
          rw [hev] at hVal
          have hp := HP.out
          rw [hev] at hp
          have HV := Aside0.mk hVal
          have HQ5 := Aside0.mk hq5
          have HB5 := Aside0.mk hb5
          have HLT := Aside0.mk (lt_of_some HBK4.out)
          clear hVal hq5 hb5 hev HP
          go_upto_region 8 with fail
          rw [HA62.out]
          by_cases hz : ev = 0
          · rw [if_pos hz] at hp
            subst hz
            subst hp
            go_wp2_with (go_at_call 11; refine HV.out.mono ?_; rintro e w6 ⟨rfl, hb6⟩; have hbk6 : w6.heap[w.heap.size]? = some (.cells #[.int .i64 0, .slice none 0 0] 24 (0, 0)) := (hb6.block _ (by have := HLT.out; simp; omega)).trans ((HB5.out.block _ HLT.out).trans HBK4.out); have hbn6 : w6.heap[w4.heap.size]? = some (.cells #[.int .i64 n, .slice A62 r.length r.length] 24 (0, 0)) := (hb6.block _ (by simp)).trans (HS.alloc_new w4 _); have hcz0 : w6.cell? ⟨w.heap.size, 0, none⟩ = some (.int .i64 0) := (blk_cell hbk6 0).trans rfl; have hcz1 : w6.cell? ⟨w.heap.size, 1, none⟩ = some (.slice none 0 0) := (blk_cell hbk6 1).trans rfl; have hfz0 := blk_frozen hbk6 0; have hfz1 := blk_frozen hbk6 1; have hcn0 : w6.cell? ⟨w4.heap.size, 0, none⟩ = some (.int .i64 n) := (blk_cell hbn6 0).trans rfl; have hcn1 : w6.cell? ⟨w4.heap.size, 1, none⟩ = some (.slice A62 r.length r.length) := (blk_cell hbn6 1).trans rfl)
            obtain ⟨k1, b1⟩ := zero_end (W := w6) (Nat.le_refl _) (HB4.out.trans ((HB5.out.trans (hb6.mono HB5.out.size)).mono HB4.out.size)) hbk6 (.int .i64 n) (.slice A62 r.length r.length)
            refine bodyPost_ret (results_ct rfl _ _ w.heap.size 24 #[.int .i64 n, .slice A62 r.length r.length] (0, 0) _ rfl k1 hu24 rfl (by kernel_rfl)) rfl ?_
            exact ⟨_, rfl, Kd.V_mono (Kd.Q_V (Kd.Q_far (p := ⟨w.heap.size, 1, none⟩) (Kd.Q_far (p := ⟨w.heap.size, 0, none⟩) (Kd.Q_below HQ5.out hb6) (fun k hk => by subst hk; show w.heap.size + 1 ≠ w.heap.size; omega) _) (fun k hk => by subst hk; show w.heap.size + 1 ≠ w.heap.size; omega) _)) (fun k hk => by subst hk; omega), b1⟩
          · rw [if_neg hz] at hp
            subst hp
            have z1 : (ev == 0) = false := beq_eq_false_iff_ne.2 hz
            have z2 : (ev != 0) = true := bne_iff_ne.2 hz
            go_wp2_with (go_at_call 11; refine HV.out.mono ?_; rintro e w6 ⟨rfl, hb6⟩; have hbk6 : w6.heap[w.heap.size]? = some (.cells #[.int .i64 0, .slice none 0 0] 24 (0, 0)) := (hb6.block _ (by have := HLT.out; simp; omega)).trans ((HB5.out.block _ HLT.out).trans HBK4.out); have hbn6 : w6.heap[w4.heap.size]? = some (.cells #[.int .i64 n, .slice A62 r.length r.length] 24 (0, 0)) := (hb6.block _ (by simp)).trans (HS.alloc_new w4 _); have hcz0 : w6.cell? ⟨w.heap.size, 0, none⟩ = some (.int .i64 0) := (blk_cell hbk6 0).trans rfl; have hcz1 : w6.cell? ⟨w.heap.size, 1, none⟩ = some (.slice none 0 0) := (blk_cell hbk6 1).trans rfl; have hfz0 := blk_frozen hbk6 0; have hfz1 := blk_frozen hbk6 1; have hcn0 : w6.cell? ⟨w4.heap.size, 0, none⟩ = some (.int .i64 n) := (blk_cell hbn6 0).trans rfl; have hcn1 : w6.cell? ⟨w4.heap.size, 1, none⟩ = some (.slice A62 r.length r.length) := (blk_cell hbn6 1).trans rfl)
            obtain ⟨k1, b1⟩ := zero_end (W := w6) (Nat.le_refl _) (HB4.out.trans ((HB5.out.trans (hb6.mono HB5.out.size)).mono HB4.out.size)) hbk6 (.int .i64 0) (.slice none 0 0)
            refine bodyPost_ret (results_ct rfl _ _ w.heap.size 24 #[.int .i64 0, .slice none 0 0] (0, 0) _ rfl k1 hu24 rfl (by kernel_rfl)) rfl ?_
            exact ⟨_, rfl, Kd.V_nil _ _ _ _ _, b1⟩
        · have hN : numOf h = none := by
            unfold numOf
            rw [hA]
            simp only [if_neg c1, if_neg c2]
            rw [itoaP_eq n (by omega) (by omega), if_neg]
            intro e
            exact c3 (by rw [← hib]; exact e)
          have hp := HLP.out
          rw [hN] at hp
          dsimp only at hp
          subst hp
          have c3b : (ib.toList == h.toList) = false := by rw [PE.toL, PE.toL]; exact beq_eq_false_iff_ne.2 c3
          clear hA hN HAT c1 c2 c3 hib
          go_wp2
          go_region_held3 (fun W => W.cell? ⟨w.heap.size + 1, 0, none⟩ = some (.string h) ∧ Below w3.heap.size w3 W) (go_keep)
            (first | (go_at_call 39; refine (HI3.out _ ?_).mono ?_; (simp [*]); rintro e w4 ⟨rfl, hcx4, hb4⟩))
          clear hcz0 hcz1 hfz0 hfz1
          have hbk4 : w4.heap[w.heap.size]? = some (.cells #[.int .i64 0, .slice none 0 0] 24 (0, 0)) := (hb4.block _ (lt_of_some HBK3.out)).trans HBK3.out
          have hcz0 : w4.cell? ⟨w.heap.size, 0, none⟩ = some (.int .i64 0) := (blk_cell hbk4 0).trans rfl
          have hcz1 : w4.cell? ⟨w.heap.size, 1, none⟩ = some (.slice none 0 0) := (blk_cell hbk4 1).trans rfl
          have hfz0 := blk_frozen hbk4 0
          have hfz1 := blk_frozen hbk4 1
          go_wp2
          obtain ⟨k1, b1⟩ := zero_end (W := w4) (Nat.le_refl _) (HB0.out.trans (hb4.mono HB0.out.size)) hbk4 (.int .i64 0) (.slice none 0 0)
          refine bodyPost_ret (results_ct rfl _ _ w.heap.size 24 #[.int .i64 0, .slice none 0 0] (0, 0) _ rfl k1 hu24 rfl (by kernel_rfl)) rfl ?_
          exact ⟨_, rfl, Kd.V_nil _ _ _ _ _, b1⟩
      · have hN : numOf h = none := by
          unfold numOf
          rcases hA' : Lib.atoiAll h.data.toList with v | _ | _
          · exact absurd hA' (hA v)
          · rfl
          · rfl
        have hp := HLP.out
        rw [hN] at hp
        dsimp only at hp
        subst hp
        clear hA hN HAT
        go_wp2
        go_quiet (fail)
        go_wp2
        obtain ⟨k1, b1⟩ := zero_end (W := w3.drewN nq) (Nat.le_refl _) (pw_below_drewN HB0.out nq) HBK3.out (.int .i64 0) (.slice none 0 0)
        refine bodyPost_ret (results_ct rfl _ _ w.heap.size 24 #[.int .i64 0, .slice none 0 0] (0, 0) _ rfl k1 hu24 rfl (by kernel_rfl)) rfl ?_
        exact ⟨_, rfl, Kd.V_nil _ _ _ _ _, b1⟩
end Go.Proofs.YtihibmcfklddeaaDoor.HL
