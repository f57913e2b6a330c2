/- The reference's Load, walked. -/
import Derived.Test.YtihibmcfklddeaaDoorHLoad
import Derived.Test.YtihibmcfklddeaaDoorHLNum
import Derived.Laws.AppendOwn
import Derived.Maps.AppendAt
namespace Go.Proofs.YtihibmcfklddeaaDoor.HL
set_option linter.unusedVariables false
set_option linter.unusedSimpArgs false
open Go.RowKit Go.Proofs.YtihibmcfklddeaaDoorW.PrintWords Go.Proofs.YtihibmcfklddeaaDoorW.PrintLast Go.Proofs.YtihibmcfklddeaaDoorW.PrintMore

/-- So far cut: the pieces, each with its line feed, are what lies ahead of 'b'; from there to i is no line feed. -/
def cutAt (s : List UInt8) (i b : Nat) (ps : List ByteArray) : Prop :=
  b ≤ i ∧ fed (ps.map (·.data.toList)) ++ s.drop b = s ∧ (∀ p ∈ ps, (10 : UInt8) ∉ p.data.toList) ∧ (10 : UInt8) ∉ (s.drop b).take (i - b)
theorem fed_snoc (ps : List (List UInt8)) (p : List UInt8) : fed (ps ++ [p]) = fed ps ++ (p ++ [10]) := by
  induction ps with
  | nil => rfl
  | cons q ps ih => simp only [List.cons_append, fed, ih, List.append_assoc]
theorem cut_start (s : List UInt8) : cutAt s 0 0 [] := ⟨Nat.le_refl _, rfl, fun _ h => (by cases h), by simp⟩
theorem take_more {s : List UInt8} {i b : Nat} (hb : b ≤ i) (hi : i < s.length) : (s.drop b).take (i + 1 - b) = (s.drop b).take (i - b) ++ [s[i]] := by
  have h1 : i - b < (s.drop b).length := by rw [List.length_drop]; omega
  rw [show i + 1 - b = (i - b) + 1 by omega, List.take_succ_eq_append_getElem h1, List.getElem_drop]
  simp only [show b + (i - b) = i by omega]
theorem cut_skip {s : List UInt8} {i b : Nat} {ps : List ByteArray} (h : cutAt s i b ps) (hi : i < s.length) (hc : s[i] ≠ 10) : cutAt s (i + 1) b ps := by
  obtain ⟨h1, h2, h3, h4⟩ := h
  refine ⟨by omega, h2, h3, ?_⟩
  rw [take_more h1 hi]
  simp only [List.mem_append, List.mem_singleton, not_or]
  exact ⟨h4, fun e => hc e.symm⟩
theorem cut_take {s : List UInt8} {i b : Nat} {ps : List ByteArray} {x : ByteArray} (h : cutAt s i b ps) (hi : i < s.length) (hc : s[i] = 10) (hx : x.data.toList = (s.drop b).take (i - b)) : cutAt s (i + 1) (i + 1) (ps ++ [x]) := by
  obtain ⟨h1, h2, h3, h4⟩ := h
  refine ⟨Nat.le_refl _, ?_, ?_, by simp⟩
  · rw [List.map_append, List.map_singleton, fed_snoc, hx, List.append_assoc, List.append_assoc]
    have e : (s.drop b).take (i - b) ++ ([10] ++ s.drop (i + 1)) = s.drop b := by
      rw [← List.append_assoc, ← hc, ← take_more h1 hi]
      have := List.take_append_drop (i + 1 - b) (s.drop b)
      rw [List.drop_drop, show b + (i + 1 - b) = i + 1 by omega] at this
      exact this
    rw [e]
    exact h2
  · intro p hp
    rcases List.mem_append.1 hp with hp | hp
    · exact h3 p hp
    · rw [List.mem_singleton.1 hp, hx]
      exact h4
theorem cut_end {s : List UInt8} {b : Nat} {ps : List ByteArray} (h : cutAt s s.length b ps) (hpos : 0 < s.length) (hl : s[s.length - 1]'(by omega) = 10) : fed (ps.map (·.data.toList)) = s ∧ ∀ p ∈ ps, (10 : UInt8) ∉ p.data.toList := by
  obtain ⟨h1, h2, h3, h4⟩ := h
  refine ⟨?_, h3⟩
  by_cases hb : b = s.length
  · rw [hb, List.drop_length, List.append_nil] at h2
    exact h2
  · exfalso
    apply h4
    have e : (s.drop b).take (s.length - b) = s.drop b := List.take_of_length_le (by rw [List.length_drop]; omega)
    rw [e]
    have hm : (s.drop b)[s.length - 1 - b]'(by rw [List.length_drop]; omega) = 10 := by
      rw [List.getElem_drop]
      simp only [show b + (s.length - 1 - b) = s.length - 1 by omega]
      exact hl
    rw [← hm]
    exact List.getElem_mem _
theorem suffix_last {s : List UInt8} (hpos : 0 < s.length) : Lib.hasSuffix s [10] = decide (s[s.length - 1]'(by omega) = 10) := by
  unfold Lib.hasSuffix
  rw [Bool.eq_iff_iff, List.isSuffixOf_iff_suffix, decide_eq_true_iff]
  constructor
  · rintro ⟨t, ht⟩
    subst ht
    simp
  · intro h
    refine ⟨s.take (s.length - 1), ?_⟩
    have := List.take_append_drop (s.length - 1) s
    rw [List.drop_eq_getElem_cons (by omega), h, List.drop_eq_nil_of_le (by omega)] at this
    exact this
theorem load_cut {s : ByteArray} {ps : List ByteArray} {h : ByteArray} {r : List ByteArray} (hps : ps = h :: r) (hf : fed (ps.map (·.data.toList)) = s.data.toList) (hn : ∀ p ∈ ps, (10 : UInt8) ∉ p.data.toList) :
    loadP s = (match numOf h with | none => (0, [], 6) | some n => if validP n r = 0 then (n, r, 0) else (0, [], validP n r)) := by
  subst hps
  obtain ⟨p, q, e1, e2, e3⟩ := loadP_is s (by rw [← hf]; exact fed_end _ _)
  have hs := split_fed (r.map (·.data.toList)) h.data.toList (fun x hx => by
    rcases List.mem_cons.1 hx with rfl | hx
    · exact hn h List.mem_cons_self
    · obtain ⟨y, hy, rfl⟩ := List.mem_map.1 hx
      exact hn y (List.mem_cons_of_mem _ hy))
  have hf' : fed (h.data.toList :: r.map (·.data.toList)) = s.data.toList := hf
  rw [hf', e1] at hs
  obtain ⟨rfl, rfl⟩ := List.cons.inj hs
  rw [e3, ba_back]
  have hm : (r.map (·.data.toList)).map (fun l => (⟨l.toArray⟩ : ByteArray)) = r := by
    rw [List.map_map]
    have : ((fun l : List UInt8 => (⟨l.toArray⟩ : ByteArray)) ∘ fun x : ByteArray => x.data.toList) = id := by
      funext x
      exact ba_back x
    rw [this, List.map_id]
  rw [hm]
  cases numOf h <;> rfl
theorem fed_mem : ∀ {ps : List (List UInt8)} {p : List UInt8}, p ∈ ps → p.length ≤ (fed ps).length
  | q :: ps, p, h => by
    simp only [fed, List.length_append, List.length_cons]
    rcases List.mem_cons.1 h with rfl | h
    · omega
    · have := fed_mem h
      omega
theorem fed_len : ∀ (ps : List (List UInt8)), ps.length ≤ (fed ps).length
  | [] => Nat.le_refl _
  | p :: r => by
    have := fed_len r
    simp only [fed, List.length_append, List.length_cons]
    omega

theorem number_walk (h : ByteArray) (hs : h.size ≤ 100000) (W : World) (hG : Gl W) : Calls Tryd.prog 45 #[.string h] W fun e w' => e = .returned (.int .i64 (PV.numV h.data.toList)) ∧ Below W.heap.size W w' := by
  obtain ⟨k, hk⟩ := (PV.number_ev h (by omega)).get
  exact (PV.jobshellref43_number.calls k h _ W hk hG).mono fun e w' ⟨h1, h2⟩ => ⟨h1, h2.below⟩
theorem rvalid_walk (a : Int) (l : List ByteArray) (A : Option Addr) (c : Nat) (w : World) (hC : Kd.C Kd.string w A l.length l) (hc : l.length ≤ c) (hsz : ∀ x ∈ l, x.size ≤ 4611686018427387904) (hG : Gl w) :
    Calls Tryd.prog 12 #[.agg #[.int .i64 a, .slice A l.length c]] w fun e w' => e = .returned (.int .i64 (validP a l)) ∧ Below w.heap.size w w' := by
  obtain ⟨k, hk⟩ := (PV.rvalid_ev a l hsz).get
  exact PV.jobshellref43_Valid.calls k a A c l _ w hC hc hk hG

set_option maxHeartbeats 4000000 in
set_option maxRecDepth 100000 in
theorem rload_walk (s : ByteArray) (w : World) (hG : Gl w) (hs : s.size ≤ 100000) :
    Calls Tryd.prog 27 #[.string s] w fun e w' => ∃ v1_ : Value, e = .returned (.tuple #[.agg #[.int .i64 (loadP s).1, v1_], .int .i64 (loadP s).2.2]) ∧ Kd.V Kd.string 9 w' w.heap.size (fun k_ => w.heap.size ≤ k_) v1_ (loadP s).2.1 ∧ Below w.heap.size w w' := by
  have HG := Aside0.mk hG
  clear hG
  have hu24 := Tryd.underlying24
  have hlen : s.data.toList.length = s.size := rfl
  have hbk := HS.alloc_new w (.cells #[.int .i64 0, .slice none 0 0] 24)
  have HBK := Aside0.mk hbk
  have hb1 : Below w.heap.size w (w.alloc (.cells #[.int .i64 0, .slice none 0 0] 24)) := (Below.refl _ _).alloc (Nat.le_refl _) _
  clear hbk
  obtain ⟨p, hp⟩ : ∃ p, loadP s = p := ⟨_, rfl⟩
  rw [hp]
  by_cases h0 : s.size = 0
  · have hl0 : s.data.toList = [] := List.eq_nil_of_length_eq_zero (by omega)
    have hq : p = (0, [], 28) := by
      rw [← hp]
      unfold loadP
      rw [hl0]
      rfl
    have b0 : (s.toList == ([] : List UInt8)) = true := by rw [PE.toL, hl0]; rfl
    have b1 : s.toList.isEmpty = true := by rw [PE.toL, hl0]; rfl
    subst hq
    clear hp hl0
    go_enter Tryd.func27, Tryd.ntmps27
    go_wp2
    refine bodyPost_ret (results_ct rfl _ _ w.heap.size 24 #[.int .i64 0, .slice none 0 0] (0, 0) _ rfl HBK.out hu24 rfl (by kernel_rfl)) rfl ?_
    exact ⟨_, rfl, Kd.V_nil _ _ _ _ _, hb1⟩
  have hpos : 0 < s.data.toList.length := by omega
  have hne : s.data.toList ≠ [] := List.length_pos_iff.1 hpos
  have b0 : (s.toList == ([] : List UInt8)) = false := by rw [PE.toL]; exact beq_eq_false_iff_ne.2 hne
  have b1 : s.toList.isEmpty = false := by rw [PE.toL]; cases h : s.data.toList with | nil => exact absurd h hne | cons _ _ => rfl
  have i1 : (0 : Int) ≤ (s.size : Int) - 1 := by omega
  have i2 : (s.size : Int) - 1 < (s.size : Int) := by omega
  have hlast := suffix_last hpos
  obtain ⟨cl, hcl⟩ : ∃ cl, s.data.toList[s.data.toList.length - 1]'(by omega) = cl := ⟨_, rfl⟩
  have hcl' : ∀ h : s.size - 1 < s.size, s[s.size - 1]'h = cl := fun h => hcl
  have hcl2 : ∀ h : ((s.size : Int) - 1).toNat < s.size, s[((s.size : Int) - 1).toNat]'h = cl := fun h => by
    have e : ((s.size : Int) - 1).toNat = s.size - 1 := by omega
    simp only [e]
    exact hcl
  by_cases h10 : cl = 10
  · have c1 : ((cl.toNat : Int) == 10) = true := by rw [h10]; rfl
    have c2 : ((cl.toNat : Int) != 10) = false := by rw [bne, c1]; rfl
    have HLAST := Aside0.mk (show s.data.toList[s.data.toList.length - 1]'(by omega) = 10 by rw [hcl]; exact h10)
    have HP := Aside0.mk hp
    have HPOS := Aside0.mk hpos
    have t9 := Tryd.underlying9
    have t24 := Tryd.underlying22
    obtain ⟨i0, hi, hz0, hz1, hz2⟩ := info_parts (show (Tryd.prog.info? 9).map (fun i => (i.zero, i.size, i.bytes)) = some (some (.string ⟨#[]⟩), 1, 16) by kernel_rfl)
    clear hp hlast hcl h10
    go_enter Tryd.func27, Tryd.ntmps27
    go_wp2
    go_loopw [4, 5, 6] (fun v4 v5 v6 wr => ∃ (i b : Nat) (ps : List ByteArray), v5 = .int .i64 b ∧ v6 = .int .i64 i ∧ b ≤ i ∧ i ≤ s.size ∧ Aside0 (ps.length ≤ i) ∧ Aside0 (cutAt s.data.toList i b ps) ∧ Aside0 (wr.ownsRow (w.heap.size + 1) 9 1 v4 ps.length (ps.map Value.string)) ∧ Aside0 (Below (w.heap.size + 1) (w.alloc (.cells #[.int .i64 0, .slice none 0 0] 24)) wr)) (fun _ _ v6 _ => s.size - (intOf v6).toNat)
    case atStart => exact ⟨0, 0, [], rfl, rfl, Nat.le_refl _, Nat.zero_le _, ⟨Nat.le_refl _⟩, ⟨cut_start _⟩, ⟨World.ownsRow_nil _ _ _ _⟩, ⟨Below.refl _ _⟩⟩
    case round =>
      obtain ⟨i, b, ps, rfl, rfl, hbi, his, hpl, hcut, hown, hbel⟩ := hrel
      have hwr : w.heap.size + 1 ≤ wr.heap.size := by have := hbel.out.size; simpa using this
      by_cases hlt : i < s.size
      · have j1 : (i : Int) < (s.size : Int) := by omega
        obtain ⟨ch, hch⟩ : ∃ ch, s.data.toList[i]'hlt = ch := ⟨_, rfl⟩
        have hch' : ∀ h : i < s.size, s[i]'h = ch := fun h => hch
        by_cases hx : ch = 10
        · have d1 : ((ch.toNat : Int) == 10) = true := by rw [hx]; rfl
          have k1 : (0 : Int) ≤ (b : Int) := by omega
          have k2 : (b : Int) ≤ (i : Int) := by omega
          have k3 : (i : Int) ≤ (s.size : Int) := by omega
          have hct := Aside0.mk (cut_take hcut.out hlt (hch.trans hx) (show (s.extract b i).data.toList = _ from Lib.extract_data _ _ _))
          clear hch hx hcut
          go_wp2_with (at_builtin; refine wpList_append_own _ rfl _ _ 22 rfl (w.heap.size + 1) 9 i0 (.string ⟨#[]⟩) 1 16 t24 hi hz0 hz1 hz2 rfl (by decide) _ ps.length (ps.map Value.string) rfl (hown.out.alloc _) ⟨wr.heap.size, 0, none⟩ 1 1 [.string (s.extract b i)] rfl rfl (cell_one_new _ _ _) (by simp [Value.oneCell']) (by have := hpl.out; unfold maxLen; omega) (by have := hpl.out; omega) (by simp; omega) ?_; intro v' w1 hown' hgrow hnil_)
          go_roundw
          case rel =>
            refine ⟨i + 1, i + 1, ps ++ [s.extract b i], by simp, by simp, Nat.le_refl _, by omega, ⟨by have := hpl.out; simp; omega⟩, hct, ⟨by simpa using hown'⟩, ⟨?_⟩⟩
            exact (hbel.out.alloc hwr _).grown hgrow (by simp; omega) (fun k hk => (hown.out.lt k hk).1)
          case measure => simp [intOf]; omega
        · have d1 : ((ch.toNat : Int) == 10) = false := beq_eq_false_iff_ne.2 fun e => hx (UInt8.toNat_inj.1 (show ch.toNat = (10 : UInt8).toNat from Int.ofNat_inj.1 e))
          have hcs := Aside0.mk (cut_skip hcut.out hlt (fun e => hx (hch.symm.trans e)))
          clear hch hcut
          go_wp2
          go_roundw
          case rel => exact ⟨i + 1, b, ps, rfl, by simp, by omega, by omega, ⟨by have := hpl.out; omega⟩, hcs, hown, hbel⟩
          case measure => simp [intOf]; omega
      · obtain rfl : i = s.size := by omega
        have hce := cut_end (s := s.data.toList) (b := b) (ps := ps) hcut.out hpos HLAST.out
        obtain ⟨h, r, hps⟩ : ∃ h r, ps = h :: r := by
          cases ps with
          | nil => exact absurd hce.1.symm hne
          | cons h r => exact ⟨h, r, rfl⟩
        have hLp := load_cut hps hce.1 hce.2
        rw [HP.out] at hLp
        have HLP := Aside0.mk hLp
        have hszs : ∀ x ∈ ps, x.size ≤ s.size := fun x hx => by
          have := fed_mem (List.mem_map.2 ⟨x, hx, rfl⟩ : x.data.toList ∈ ps.map (·.data.toList))
          rw [hce.1] at this
          exact this
        have HSZ := Aside0.mk hszs
        have hrd : rdOf ByteArray.empty ps 0 = h := by rw [hps]; rfl
        have hrl : r = ps.drop 1 := by rw [hps]; rfl
        have hhs : h.size ≤ 100000 := by have := hszs h (by rw [hps]; exact List.mem_cons_self); omega
        have hpp : 0 < ps.length := by rw [hps]; simp
        have HRL := Aside0.mk hrl
        have hR : Kd.R Kd.string 9 wr (w.heap.size + 1) (fun k => w.heap.size + 1 ≤ k) u4 ps := Kd.R_of_own (by simpa [encs] using hown.out) (fun k hk => (hown.out.lt k hk).1)
        obtain ⟨A, c, eo⟩ := Kd.R_slice hR
        subst eo
        have hC := (Kd.R_reads' hR).2.2
        obtain ⟨ad, e, hx⟩ := Kd.at_string hC 0 (by omega) (by omega)
        subst e
        rw [hrd, show (0 : Int).toNat = 0 from rfl] at hx
        have hx0 : wr.cell? ad = some (.string h) := by have := hx; rwa [show ad.add 0 = ad by simp [Addr.add]] at this
        clear hx
        have hbox := (hbel.out.block w.heap.size (by omega)).trans HBK.out
        have HBOX := Aside0.mk hbox
        have hnw := number_walk h hhs wr (HG.out.below (hb1.trans (hbel.out.mono (by omega))))
        have hns := PV.num_same h
        obtain ⟨nv, hnv⟩ : ∃ nv, PV.numV h.data.toList = nv := ⟨_, rfl⟩
        rw [hnv] at hnw hns
        have HNS := Aside0.mk hns
        have HNW := Aside0.mk hnw
        have HRR := Aside0.mk hR
        have hp1 : (0 : Int) < (ps.length : Int) := by omega
        clear hce hps hLp hszs hrd hrl hR hC hbox hnw hns hnv hcut hown
        go_upto_region 12 with (go_at_call 45; refine HNW.out.mono ?_; rintro e w3 ⟨rfl, hb3⟩)
        clear hx0 hp1
        have hbk3 := (hb3.block _ (lt_of_some HBOX.out)).trans HBOX.out
        have hR3 := Kd.R_below HRR.out hb3
        have hb0 := (hb1.trans (hbel.out.mono (by omega))).trans (hb3.mono (by omega))
        have HBK4 := Aside0.mk hbk3
        have HR4 := Aside0.mk hR3
        have HB4 := Aside0.mk hb0
        have HLT := Aside0.mk (lt_of_some hbk3)
        clear hbk3 hR3 hb0 hb3 HBOX HRR hbel
        have hp := HLP.out
        rw [HNS.out] at hp
        by_cases hz : nv = 0
        · rw [if_pos hz] at hp
          dsimp only at hp
          subst hp
          have z1 : (nv == 0) = true := beq_iff_eq.2 hz
          have z2 : (nv != 0) = false := by rw [bne, z1]; rfl
          have hcz0 : w3.cell? ⟨w.heap.size, 0, none⟩ = some (.int .i64 0) := (blk_cell HBK4.out 0).trans rfl
          have hcz1 : w3.cell? ⟨w.heap.size, 1, none⟩ = some (.slice none 0 0) := (blk_cell HBK4.out 1).trans rfl
          have hfz0 := blk_frozen HBK4.out 0
          have hfz1 := blk_frozen HBK4.out 1
          clear hz
          go_wp2
          obtain ⟨k1, b1⟩ := zero_end (W := w3) (Nat.le_refl _) HB4.out HBK4.out (.int .i64 0) (.slice none 0 0)
          refine bodyPost_ret (results_ct rfl _ _ w.heap.size 24 #[.int .i64 0, .slice none 0 0] (0, 0) _ rfl k1 hu24 rfl (by kernel_rfl)) rfl ?_
          exact ⟨_, rfl, Kd.V_nil _ _ _ _ _, b1⟩
        · rw [if_neg hz] at hp
          dsimp only at hp
          have z1 : (nv == 0) = false := beq_eq_false_iff_ne.2 hz
          have z2 : (nv != 0) = true := bne_iff_ne.2 hz
          have q62 : (1 : Int) ≤ ((ps.length : Nat) : Int) := by omega
          have hcut62 := cut_from (P := Tryd.prog) 22 9 .i64 t24 hi 1 hz1 (some ad) ps.length c 1 (by omega) q62
          have hr62 := Kd.Q_drop (k := (1 : Int).toNat) (Kd.Q_of_R HR4.out) (by omega)
          obtain ⟨A62, hA62⟩ : ∃ A1, A1 = (if c = (1 : Int).toNat then (some ad : Option Addr) else (some ad : Option Addr).map (·.add ((1 : Int).toNat * 1))) := ⟨_, rfl⟩
          obtain ⟨c62, hc62⟩ : ∃ c1, c1 = c - (1 : Int).toNat := ⟨_, rfl⟩
          have hy62 : r.length = ps.length - (1 : Int).toNat := by rw [HRL.out, List.length_drop]; rfl
          rw [← hy62, ← hA62, ← hc62] at hcut62
          replace hr62 : Kd.Q Kd.string 9 w3 (w.heap.size + 1) (fun k => w.heap.size + 1 ≤ k) (.slice A62 r.length c62) r := by
            rw [hA62, hc62, hy62, HRL.out]
            exact hr62
          have HQ := Aside0.mk hr62
          have hcle : r.length ≤ c62 := (Kd.Q_reads' hr62).2.1
          have HCLE := Aside0.mk hcle
          clear hy62 hA62 hc62 hr62 hcle
          replace q62 := eq_true q62
          obtain ⟨ev, hev⟩ : ∃ ev, validP nv r = ev := ⟨_, rfl⟩
          have hb5 : Below w3.heap.size w3 (w3.alloc (.cells #[.int .i64 nv, .slice A62 r.length c62] 24)) := (Below.refl _ _).alloc (Nat.le_refl _) _
          have hq5 := Kd.Q_alloc HQ.out (.cells #[.int .i64 nv, .slice A62 r.length c62] 24)
          have hVal := rvalid_walk nv r A62 c62 (w3.alloc (.cells #[.int .i64 nv, .slice A62 r.length c62] 24)) (Kd.Q_reads' hq5).2.2 HCLE.out (fun x hx => by have := HSZ.out x (by rw [HRL.out] at hx; exact List.mem_of_mem_drop hx); omega) (HG.out.below (HB4.out.trans (hb5.mono HB4.out.size)))
          rw [hev] at hVal hp
          have HV := Aside0.mk hVal
          have HQ5 := Aside0.mk hq5
          have HB5 := Aside0.mk hb5
          clear hVal hq5 hb5 hev hz
          go_upto_region 15 with fail
          by_cases hz : ev = 0
          · rw [if_pos hz] at hp
            subst hz
            subst hp
            go_wp2_with (go_at_call 12; refine HV.out.mono ?_; rintro e w6 ⟨rfl, hb6⟩; have hbk6 : w6.heap[w.heap.size]? = some (.cells #[.int .i64 0, .slice none 0 0] 24 (0, 0)) := (hb6.block _ (by have := HLT.out; simp; omega)).trans ((HB5.out.block _ HLT.out).trans HBK4.out); have hbn6 : w6.heap[w3.heap.size]? = some (.cells #[.int .i64 nv, .slice A62 r.length c62] 24 (0, 0)) := (hb6.block _ (by simp)).trans (HS.alloc_new w3 _); have hcz0 : w6.cell? ⟨w.heap.size, 0, none⟩ = some (.int .i64 0) := (blk_cell hbk6 0).trans rfl; have hcz1 : w6.cell? ⟨w.heap.size, 1, none⟩ = some (.slice none 0 0) := (blk_cell hbk6 1).trans rfl; have hfz0 := blk_frozen hbk6 0; have hfz1 := blk_frozen hbk6 1; have hcn0 : w6.cell? ⟨w3.heap.size, 0, none⟩ = some (.int .i64 nv) := (blk_cell hbn6 0).trans rfl; have hcn1 : w6.cell? ⟨w3.heap.size, 1, none⟩ = some (.slice A62 r.length c62) := (blk_cell hbn6 1).trans rfl)
            obtain ⟨k1, b1⟩ := zero_end (W := w6) (Nat.le_refl _) (HB4.out.trans ((HB5.out.trans (hb6.mono HB5.out.size)).mono HB4.out.size)) hbk6 (.int .i64 nv) (.slice A62 r.length c62)
            refine bodyPost_ret (results_ct rfl _ _ w.heap.size 24 #[.int .i64 nv, .slice A62 r.length c62] (0, 0) _ rfl k1 hu24 rfl (by kernel_rfl)) rfl ?_
            exact ⟨_, rfl, Kd.V_mono (Kd.Q_V (Kd.Q_far (p := ⟨w.heap.size, 1, none⟩) (Kd.Q_far (p := ⟨w.heap.size, 0, none⟩) (Kd.Q_below HQ5.out hb6) (fun k hk => by show k ≠ w.heap.size; omega) _) (fun k hk => by show k ≠ w.heap.size; omega) _)) (fun k hk => by omega), b1⟩
          · rw [if_neg hz] at hp
            subst hp
            have y1 : (ev == 0) = false := beq_eq_false_iff_ne.2 hz
            have y2 : (ev != 0) = true := bne_iff_ne.2 hz
            go_wp2_with (go_at_call 12; refine HV.out.mono ?_; rintro e w6 ⟨rfl, hb6⟩; have hbk6 : w6.heap[w.heap.size]? = some (.cells #[.int .i64 0, .slice none 0 0] 24 (0, 0)) := (hb6.block _ (by have := HLT.out; simp; omega)).trans ((HB5.out.block _ HLT.out).trans HBK4.out); have hbn6 : w6.heap[w3.heap.size]? = some (.cells #[.int .i64 nv, .slice A62 r.length c62] 24 (0, 0)) := (hb6.block _ (by simp)).trans (HS.alloc_new w3 _); have hcz0 : w6.cell? ⟨w.heap.size, 0, none⟩ = some (.int .i64 0) := (blk_cell hbk6 0).trans rfl; have hcz1 : w6.cell? ⟨w.heap.size, 1, none⟩ = some (.slice none 0 0) := (blk_cell hbk6 1).trans rfl; have hfz0 := blk_frozen hbk6 0; have hfz1 := blk_frozen hbk6 1; have hcn0 : w6.cell? ⟨w3.heap.size, 0, none⟩ = some (.int .i64 nv) := (blk_cell hbn6 0).trans rfl; have hcn1 : w6.cell? ⟨w3.heap.size, 1, none⟩ = some (.slice A62 r.length c62) := (blk_cell hbn6 1).trans rfl)
            obtain ⟨k1, b1⟩ := zero_end (W := w6) (Nat.le_refl _) (HB4.out.trans ((HB5.out.trans (hb6.mono HB5.out.size)).mono HB4.out.size)) hbk6 (.int .i64 0) (.slice none 0 0)
            refine bodyPost_ret (results_ct rfl _ _ w.heap.size 24 #[.int .i64 0, .slice none 0 0] (0, 0) _ rfl k1 hu24 rfl (by kernel_rfl)) rfl ?_
            exact ⟨_, rfl, Kd.V_nil _ _ _ _ _, b1⟩
  · have hq : p = (0, [], 28) := by
      rw [← hp]
      unfold loadP
      rw [hlast, hcl, decide_eq_false h10]
      rfl
    have c1 : ((cl.toNat : Int) == 10) = false := beq_eq_false_iff_ne.2 fun e => h10 (UInt8.toNat_inj.1 (show cl.toNat = (10 : UInt8).toNat from Int.ofNat_inj.1 e))
    have c2 : ((cl.toNat : Int) != 10) = true := by rw [bne, c1]; rfl
    subst hq
    clear hp hlast hcl
    go_enter Tryd.func27, Tryd.ntmps27
    go_wp2
    refine bodyPost_ret (results_ct rfl _ _ w.heap.size 24 #[.int .i64 0, .slice none 0 0] (0, 0) _ rfl HBK.out hu24 rfl (by kernel_rfl)) rfl ?_
    exact ⟨_, rfl, Kd.V_nil _ _ _ _ _, hb1⟩
end Go.Proofs.YtihibmcfklddeaaDoor.HL
