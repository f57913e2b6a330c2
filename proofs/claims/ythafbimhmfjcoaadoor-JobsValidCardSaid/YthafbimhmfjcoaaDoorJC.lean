/- jobs.Update, walked: the process belongs to a job. -/
import Derived.Test.YthafbimhmfjcoaaDoorJB
import Derived.Test.YthafbimhmfjcoaaDoorPVy1
namespace Go.Proofs.YthafbimhmfjcoaaDoor.PV
set_option linter.unusedVariables false
set_option linter.unusedSimpArgs false
open Go.RowKit Go.Proofs.YthafbimhmfjcoaaDoorW.PrintWords Go.Proofs.YthafbimhmfjcoaaDoorW.PrintLast Go.Proofs.YthafbimhmfjcoaaDoorW.PrintMore Go.Proofs.YthafbimhmfjcoaaDoor.JP
set_option maxHeartbeats 8000000 in
set_option maxRecDepth 100000 in
theorem upd_in_cont (k : Nat) (l : List Jb) (pid s : Int) (A : Option Addr) (c : Nat) (w : World) (hC : Kd.C k35 w A l.length l) (hc : l.length ≤ c) (hG : Gl w) (i : Int) (h0 : 0 ≤ i) (hil : i < (l.length : Int)) (hm : jobs_member.f k l pid = some i) (hv : jobs_valid.f k s = some true)
    (kd kv : Int) (hkd : status_Kind.f k s = some (kd, kv)) (hs : (kd == 3) = true) (x : Jb) (hx : rd_T35 l i = x) (hlen : x.f3.length ≤ x.f4.length) (ho : jobs_own.f k l = some l) (st : Int) (hst : jobs_state.f k (statsP pid (-1) x.f3 x.f4) = some st) (hsm : l.length ≤ 100000) (RR : List Jb) (hRR : RR = (if st ≠ x.f2 ∧ st = 2 then (l.take i.toNat ++ l.drop (i.toNat + 1)) ++ [⟨x.f0, x.f1, st, x.f3, statsP pid (-1) x.f3 x.f4, x.f5, if st ≠ x.f2 then false else x.f6⟩] else l.set i.toNat ⟨x.f0, x.f1, st, x.f3, statsP pid (-1) x.f3 x.f4, x.f5, if st ≠ x.f2 then false else x.f6⟩)) :
    Calls Tryd.prog 24 #[.slice A l.length c, .int .i64 pid, .int .i64 s] w fun e w' => ∃ v, e = .returned (.tuple #[v, .bool true]) ∧ Kd.V k35 35 w' w.heap.size (fun k_ => w.heap.size ≤ k_) v
      RR ∧ Below w.heap.size w w' := by
  have HC := Aside0.mk hC
  have HL := Aside0.mk hc
  have HG := Aside0.mk hG
  have HM := Aside0.mk hm
  have HV := Aside0.mk hv
  have HKD := Aside0.mk hkd
  have HO := Aside0.mk ho
  have HST := Aside0.mk hst
  have HX := Aside0.mk hx
  have HP := Aside0.mk (show 0 ≤ i ∧ i < (l.length : Int) from ⟨h0, hil⟩)
  have HLN := Aside0.mk hlen
  have HSM := Aside0.mk hsm
  have HRR := Aside0.mk hRR
  clear hC hc hG hm hv hkd ho hst hx hlen hsm hRR
  have h' : decide (i < 0) = false := decide_eq_false (by omega)
  have hu35 := Tryd.underlying35
  replace h0 := eq_true h0
  replace hil := eq_true hil
  go_enter Tryd.func24, Tryd.ntmps24
  go_wp2_with (first
    | (go_at_call 26; refine (jobs_member.calls k A c l pid i _ HC.out HL.out HM.out HG.out).mono ?_; rintro e w1 ⟨rfl, hb⟩; have HB := Aside0.mk hb; clear hb)
    | (go_at_call 50; refine (jobs_valid.calls k s true _ HV.out (HG.out.below HB.out)).mono ?_; rintro e w2 ⟨rfl, ⟨nd, rfl⟩⟩)
    | (go_at_call 27; refine (own_sep k A c l l _ (Kd.C_below HC.out (pw_below_drewN HB.out _)) HL.out HO.out (HG.out.below (pw_below_drewN HB.out _))).mono ?_; rintro e w3 ⟨v0, rfl, hS, hb⟩; have HB3 := Aside0.mk (below_step (pw_below_drewN HB.out _) hb); replace hS := Kd.S_lower hS (below_size (pw_below_drewN HB.out _)); clear hb HB; obtain ⟨g, cap, rfl, _⟩ := Kd.S_form hS (by have := HP.out; omega); obtain ⟨A3, c3, A4, c4, ⟨hx0, hx1, hx2, hx3, hx4, hx5, hx6⟩, hU⟩ := lend_at hS HP.out.1 HP.out.2 x HX.out; have HU := Aside0.mk hU; clear hU hS)
    | ((with_reducible refine gate_dst (N := 10) rfl ?_); refine box_event ?hg (N := 10) ?hd (cs := #[.int .i64 0, .int .i64 0, .int .i64 0, .slice none 0 0, .slice none 0 0, .string (⟨#[]⟩ : ByteArray), .bool false]) (t := 35) ?hr ?_; (case hd => rfl); (case hg => rfl); (case hr => first | (go_simp; done) | (go_simp; rfl)); intro gb hg w8 hbox hb; subst hg; have HBX := Aside0.mk hbox; have HB8 := Aside0.mk hb; clear hbox hb; have hz0 : w8.cell? ⟨w3.heap.size, 0, none⟩ = some (.int .i64 0) := (blk_cell HBX.out 0).trans rfl; have hz1 : w8.cell? ⟨w3.heap.size, 1, none⟩ = some (.int .i64 0) := (blk_cell HBX.out 1).trans rfl; have hz2 : w8.cell? ⟨w3.heap.size, 2, none⟩ = some (.int .i64 0) := (blk_cell HBX.out 2).trans rfl; have hz3 : w8.cell? ⟨w3.heap.size, 3, none⟩ = some (.slice none 0 0) := (blk_cell HBX.out 3).trans rfl; have hz4 : w8.cell? ⟨w3.heap.size, 4, none⟩ = some (.slice none 0 0) := (blk_cell HBX.out 4).trans rfl; have hz5 : w8.cell? ⟨w3.heap.size, 5, none⟩ = some (.string (⟨#[]⟩ : ByteArray)) := (blk_cell HBX.out 5).trans rfl; have hz6 : w8.cell? ⟨w3.heap.size, 6, none⟩ = some (.bool false) := (blk_cell HBX.out 6).trans rfl; obtain ⟨_, _, _, _, _, _, _, hf0, hf1, hf2, hf3, hf4, hf5, hf6⟩ := cells7 HBX.out)
    | (go_at_call 51; have HU9 := Aside0.mk (HU.out (((((((w8.setCell ⟨w3.heap.size, 0, none⟩ (.int .i64 x.f0)).setCell ⟨w3.heap.size, 1, none⟩ (.int .i64 x.f1)).setCell ⟨w3.heap.size, 2, none⟩ (.int .i64 x.f2)).setCell ⟨w3.heap.size, 3, none⟩ (.slice A3 x.f3.length c3)).setCell ⟨w3.heap.size, 4, none⟩ (.slice A4 x.f4.length c4)).setCell ⟨w3.heap.size, 5, none⟩ (.string x.f5)).setCell ⟨w3.heap.size, 6, none⟩ (.bool x.f6)) (fun k hk => by rw [seven_far _ _ _ _ _ _ _ k (by omega)]; exact HB8.out.block k hk) (seven _ _ _ _ _ _ _ HBX.out) (by repeat (first | (with_reducible exact below_step HB3.out HB8.out) | refine below_set ?_ (below_size HB3.out)))); generalize (((((((w8.setCell ⟨w3.heap.size, 0, none⟩ (.int .i64 x.f0)).setCell ⟨w3.heap.size, 1, none⟩ (.int .i64 x.f1)).setCell ⟨w3.heap.size, 2, none⟩ (.int .i64 x.f2)).setCell ⟨w3.heap.size, 3, none⟩ (.slice A3 x.f3.length c3)).setCell ⟨w3.heap.size, 4, none⟩ (.slice A4 x.f4.length c4)).setCell ⟨w3.heap.size, 5, none⟩ (.string x.f5)).setCell ⟨w3.heap.size, 6, none⟩ (.bool x.f6)) = w9 at HU9 ⊢; clear HU HBX HB8 hz0 hz1 hz2 hz3 hz4 hz5 hz6 hf0 hf1 hf2 hf3 hf4 hf5 hf6 hx0 hx1 hx2 hx3 hx4 hx5 hx6; refine (status_Kind.calls k s kd kv _ HKD.out (HG.out.below HU9.out.read.2.1)).mono ?_; rintro e w10 ⟨rfl, ⟨nd2, rfl⟩⟩; have hy3 : w9.cell? ⟨w3.heap.size, 3, none⟩ = some (.slice A3 x.f3.length c3) := (blk_cell HU9.out.read.1 3).trans rfl; replace HU9 := Aside0.mk (HU9.out.drewN nd2)))
  clear hy3
  have hgb : w.heap.size ≤ w3.heap.size := below_size HB3.out
  generalize w3.heap.size = gb at hgb HU9 ⊢
  clear HB3
  go_loopw [43] (fun v wr => ∃ n : Nat, v = .int .i64 n ∧ n ≤ x.f3.length ∧ Aside0 (Upk w wr (.slice (some ⟨g, 0, none⟩) l.length cap) l i gb x (statsP pid (-1) (x.f3.take n) x.f4) (.slice A3 x.f3.length c3) (.slice A4 x.f4.length c4))) (fun v _ => (x.f3.length - (intOf v)).toNat)
  case atStart => exact ⟨0, rfl, Nat.zero_le _, ⟨by rw [List.take_zero, statsP_nil]; exact HU9.out⟩⟩
  case round =>
    obtain ⟨n, rfl, hn, hU⟩ := hrel
    clear HU9
    by_cases hlt : n < x.f3.length
    · obtain ⟨hbk, hB, ⟨A3', c3', e3, hl3, hC3⟩, _⟩ := hU.out.read
      injection e3 with e3a _ e3c
      subst e3a e3c
      obtain ⟨ad, ea, hx⟩ := Kd.at_int hC3 (n : Int) (by omega) (by omega)
      have hfl : (statsP pid (-1) (x.f3.take n) x.f4).length = x.f4.length := statsP_len _ _ _ _
      have hn4 : n < x.f4.length := by have := HLN.out; omega
      obtain ⟨g4, c4', e4, hcell⟩ := hU.out.row4 (by omega)
      injection e4 with e4a _ e4c
      subst ea e4a e4c
      rw [Int.toNat_natCast] at hx
      obtain ⟨hq, hqf⟩ := hcell n (by omega)
      have hy4 : wr.cell? ⟨gb, 4, none⟩ = some (.slice (some ⟨g4, 0, none⟩) x.f4.length c4) := (blk_cell hbk 4).trans rfl
      have hi3 : (n : Int) < (x.f3.length : Int) := by omega
      have hi4 : (n : Int) < (x.f4.length : Int) := by omega
      have hrd : rd x.f3 (n : Int) = x.f3[n] := by simp [rd, hlt]
      rw [hrd] at hx
      have hst := statsP_step pid (-1) x.f3 x.f4 n hlt HLN.out
      have hw1 : wrap64 ((n : Int) + 1) = (n : Int) + 1 := by have := hC3.2.1; unfold wrap64; omega
      clear hbk hB hC3 hl3 hcell hrd
      have HQ := Aside0.mk hU.out
      by_cases hp : x.f3[n] = pid
      rotate_left
      · rw [if_neg hp] at hst
        have hpb : (x.f3[n] == pid) = false := by simpa using hp
        have HSTP := Aside0.mk hst
        clear hst hfl hn4 hp
        go_wp2
        go_roundw
        case rel => exact ⟨n + 1, by rw [hw1]; simp, by omega, ⟨by rw [HSTP.out]; exact HQ.out⟩⟩
        case measure => rw [hw1]; simp [intOf]; omega
      rw [if_pos hp] at hst
      have hpb : (x.f3[n] == pid) = true := by simpa using hp
      have HSTP := Aside0.mk hst
      clear hst hfl hn4 hp
      go_wp2
      go_roundw
      case rel => exact ⟨n + 1, by rw [hw1]; simp, by omega, ⟨by rw [HSTP.out]; exact HQ.out.put n (-1)⟩⟩
      case measure => rw [hw1]; simp [intOf]; omega
    obtain rfl : n = x.f3.length := by omega
    have hfl : (statsP pid (-1) x.f3 x.f4).length = x.f4.length := statsP_len _ _ _ _
    rw [List.take_length, ← hfl] at hU
    clear hn hlt
    obtain ⟨_, _, ⟨A3', c3', e3, hl3, _⟩, ⟨A4', c4', e4, hl4, _⟩⟩ := hU.out.read
    injection e3 with e3a _ e3c
    injection e4 with e4a _ e4c
    subst e3a e3c e4a e4c
    have HD := Aside0.mk (hU.out.done hgb)
    have HL3 := Aside0.mk hl3
    have HL4 := Aside0.mk hl4
    clear hU hl3 hl4 hfl
    obtain ⟨fs, hfs⟩ : ∃ fs, statsP pid (-1) x.f3 x.f4 = fs := ⟨_, rfl⟩
    rw [hfs] at HD HL4 HST
    have HFS := Aside0.mk hfs
    clear hfs
    have hy2 : wr.cell? ⟨gb, 2, none⟩ = some (.int .i64 x.f2) := (blk_cell HD.out.2.2.2.1 2).trans rfl
    have hy4 : wr.cell? ⟨gb, 4, none⟩ = some (.slice A4 fs.length c4) := (blk_cell HD.out.2.2.2.1 4).trans rfl
    by_cases hsx : st = x.f2
    · have hsb : (st == x.f2) = true := by simpa using hsx
      have hsn : (st != x.f2) = false := by simpa using hsx
      have HSX := Aside0.mk hsx
      clear hsx
      go_wp2_with (first
        | (go_at_call 52; refine (jobs_state.calls k A4 c4 fs st _ (Kd.F_now HD.out.2.2.1) HL4.out HST.out (HG.out.below HD.out.2.2.2.2.1)).mono ?_; rintro e w21 ⟨rfl, ⟨nd3, rfl⟩⟩; have h_ := HD.out.drewN nd3; clear HD; have HD := Aside0.mk h_; clear h_ hy2 hy4; generalize wr.drewN nd3 = w21 at HD ⊢)
        | ((with_reducible refine gate_store (t := 3) (p := 62) rfl ?_); refine store_event (t := 3) (p := 62) (v := ?vo) (w1 := w21.setCell ⟨gb, 2, none⟩ (.int .i64 st)) ?hg ?ho ?hn ?hr ?_; (case ho => rfl); (case hg => rfl); (case hn => rfl); (case hr => have hq2 : w21.cell? ⟨gb, 2, none⟩ = some (.int .i64 x.f2) := (blk_cell HD.out.2.2.2.1 2).trans rfl; have hf2 := blk_frozen HD.out.2.2.2.1 2; first | (go_simp; done) | (go_simp; rfl)); intro w22 hw; have h_ := HD.out.put 2 (.int .i64 st) (cs' := #[.int .i64 x.f0, .int .i64 x.f1, .int .i64 st, .slice A3 x.f3.length c3, .slice A4 fs.length c4, .string x.f5, .bool x.f6]) rfl; rw [← hw] at h_; clear HD hw; have HD := Aside0.mk h_; clear h_; obtain ⟨hz0, hz1, hz2, hz3, hz4, hz5, hz6⟩ := held7 HD.out.2.2.2.1)
        | ((with_reducible refine gate_store (t := 35) (p := 71) rfl ?_); obtain ⟨cc, hcl, _, hcc, _⟩ := Kd.N_elem HD.out.1 z35 i HP.out.1 HP.out.2; have hM := k35_mkF w22 (fun k => (w.heap.size ≤ k ∧ k ≠ gb) ∧ some k ≠ (Value.slice (some ⟨g, 0, none⟩) l.length cap).ownBlock) ⟨x.f0, x.f1, st, x.f3, fs, x.f5, x.f6⟩ (c3 := c3) (c4 := c4) HL3.out HD.out.2.1 HL4.out HD.out.2.2.1; refine Kd.N_store k35 (w0 := w) w.heap.size rfl rfl 35 (.tmp 71) (.tmp 70) rfl 35 i 0 _ ⟨x.f0, x.f1, st, x.f3, fs, x.f5, x.f6⟩ (.agg #[.int .i64 x.f0, .int .i64 x.f1, .int .i64 st, .slice A3 x.f3.length c3, .slice A4 fs.length c4, .string x.f5, .bool x.f6]) [.int .i64 x.f0, .int .i64 x.f1, .int .i64 st, .slice A3 x.f3.length c3, .slice A4 fs.length c4, .string x.f5, .bool x.f6] cc _ (fun k => (w.heap.size ≤ k ∧ k ≠ gb) ∧ some k ≠ (Value.slice (some ⟨g, 0, none⟩) l.length cap).ownBlock) rfl rfl rfl rfl (by rw [show (Tryd.prog.info? 35).map (·.size) = some 7 by kernel_rfl]; rfl) (by intro q hq; simp only [List.mem_cons, List.not_mem_nil, or_false] at hq; rcases hq with rfl | rfl | rfl | rfl | rfl | rfl | rfl <;> rfl) HD.out.1 HP.out.1 HP.out.2 hcl hcc (Nat.le_refl 7) (by rw [show cc.take 0 ++ [.int .i64 x.f0, .int .i64 x.f1, .int .i64 st, .slice A3 x.f3.length c3, .slice A4 fs.length c4, .string x.f5, .bool x.f6] ++ cc.drop (0 + ([.int .i64 x.f0, .int .i64 x.f1, .int .i64 st, .slice A3 x.f3.length c3, .slice A4 fs.length c4, .string x.f5, .bool x.f6] : List Value).length) = [.int .i64 x.f0, .int .i64 x.f1, .int .i64 st, .slice A3 x.f3.length c3, .slice A4 fs.length c4, .string x.f5, .bool x.f6] by rw [List.take_zero, List.nil_append, List.drop_eq_nil_of_le (by rw [hcl]; exact Nat.le_refl 7), List.append_nil]]; exact hM) (fun k hk => ⟨hk.1, fun he => hk.2 (by rw [he]; simp [Value.ownBlock])⟩) HD.out.2.2.2.2.1 ?_; intro w30 hN hB hg; have hne : gb ≠ g := fun he => (hN.1 g (by simp [Value.ownBlock])).2 he.symm; have HD3 := Aside0.mk (show Upd2 w w30 _ _ gb #[.int .i64 x.f0, .int .i64 x.f1, .int .i64 st, .slice A3 x.f3.length c3, .slice A4 fs.length c4, .string x.f5, .bool x.f6] A3 A4 x.f3 fs from ⟨hN, Kd.F_grown HD.out.2.1 hg (fun k hk he => hk.2 (by rw [he]; simp [Value.ownBlock])), Kd.F_grown HD.out.2.2.1 hg (fun k hk he => hk.2 (by rw [he]; simp [Value.ownBlock])), blk_grown HD.out.2.2.2.1 hg (fun he => hne (by injection he)), hB, hgb⟩); clear HD hN hB hg hcl hcc hM hz0 hz1 hz2 hz3 hz4 hz5 hz6; obtain ⟨hz0, hz1, hz2, hz3, hz4, hz5, hz6⟩ := held7 HD3.out.2.2.2.1))
      go_ret2
      exact ⟨_, rfl, by rw [HRR.out, if_neg (fun h => h.1 HSX.out), if_neg (fun h => h HSX.out), HFS.out]; have h := HD3.out.1; rw [List.set_set] at h; exact Kd.V_mono (Kd.N_V h) (fun k hk => hk.1), HD3.out.2.2.2.2.1⟩
    have hsb : (st == x.f2) = false := by simpa using hsx
    have hsn : (st != x.f2) = true := by simpa using hsx
    have HSX := Aside0.mk hsx
    clear hsx
    by_cases hs2 : st = 2
    rotate_left
    · have hs2b : (st == 2) = false := by simpa using hs2
      have HS2 := Aside0.mk hs2
      clear hs2
      go_wp2_with (first
        | (go_at_call 52; refine (jobs_state.calls k A4 c4 fs st _ (Kd.F_now HD.out.2.2.1) HL4.out HST.out (HG.out.below HD.out.2.2.2.2.1)).mono ?_; rintro e w21 ⟨rfl, ⟨nd3, rfl⟩⟩; have h_ := HD.out.drewN nd3; clear HD; have HD := Aside0.mk h_; clear h_ hy2 hy4; generalize wr.drewN nd3 = w21 at HD ⊢)
        | ((with_reducible refine gate_store (t := 3) (p := 62) rfl ?_); refine store_event (t := 3) (p := 62) (v := ?vo) (w1 := w21.setCell ⟨gb, 2, none⟩ (.int .i64 st)) ?hg ?ho ?hn ?hr ?_; (case ho => rfl); (case hg => rfl); (case hn => rfl); (case hr => have hq2 : w21.cell? ⟨gb, 2, none⟩ = some (.int .i64 x.f2) := (blk_cell HD.out.2.2.2.1 2).trans rfl; have hf2 := blk_frozen HD.out.2.2.2.1 2; first | (go_simp; done) | (go_simp; rfl)); intro w22 hw; have h_ := HD.out.put 2 (.int .i64 st) (cs' := #[.int .i64 x.f0, .int .i64 x.f1, .int .i64 st, .slice A3 x.f3.length c3, .slice A4 fs.length c4, .string x.f5, .bool x.f6]) rfl; rw [← hw] at h_; clear HD hw; have HD := Aside0.mk h_; clear h_; have hz0 : w22.cell? ⟨gb, 0, none⟩ = some (.int .i64 x.f0) := (blk_cell HD.out.2.2.2.1 0).trans rfl; have hz1 : w22.cell? ⟨gb, 1, none⟩ = some (.int .i64 x.f1) := (blk_cell HD.out.2.2.2.1 1).trans rfl; have hz2 : w22.cell? ⟨gb, 2, none⟩ = some (.int .i64 st) := (blk_cell HD.out.2.2.2.1 2).trans rfl; have hz3 : w22.cell? ⟨gb, 3, none⟩ = some (.slice A3 x.f3.length c3) := (blk_cell HD.out.2.2.2.1 3).trans rfl; have hz4 : w22.cell? ⟨gb, 4, none⟩ = some (.slice A4 fs.length c4) := (blk_cell HD.out.2.2.2.1 4).trans rfl; have hz5 : w22.cell? ⟨gb, 5, none⟩ = some (.string x.f5) := (blk_cell HD.out.2.2.2.1 5).trans rfl)
        | ((with_reducible refine gate_store (t := 4) (p := 67) rfl ?_); refine store_event (t := 4) (p := 67) (v := .const (.bool false)) (w1 := w22.setCell ⟨gb, 6, none⟩ (.bool false)) ?hg ?ho ?hn ?hr ?_; (case ho => rfl); (case hg => rfl); (case hn => rfl); (case hr => have hq6 : w22.cell? ⟨gb, 6, none⟩ = some (.bool x.f6) := (blk_cell HD.out.2.2.2.1 6).trans rfl; have hf6 := blk_frozen HD.out.2.2.2.1 6; first | (go_simp; done) | (go_simp; rfl)); intro w23 hw; have h_ := HD.out.put 6 (.bool false) (cs' := #[.int .i64 x.f0, .int .i64 x.f1, .int .i64 st, .slice A3 x.f3.length c3, .slice A4 fs.length c4, .string x.f5, .bool false]) rfl; rw [← hw] at h_; clear HD hw hz0 hz1 hz2 hz3 hz4 hz5; have HD := Aside0.mk h_; clear h_; obtain ⟨hz0, hz1, hz2, hz3, hz4, hz5, hz6⟩ := held7 HD.out.2.2.2.1)
        | ((with_reducible refine gate_store (t := 35) (p := 71) rfl ?_); obtain ⟨cc, hcl, _, hcc, _⟩ := Kd.N_elem HD.out.1 z35 i HP.out.1 HP.out.2; have hM := k35_mkF w23 (fun k => (w.heap.size ≤ k ∧ k ≠ gb) ∧ some k ≠ (Value.slice (some ⟨g, 0, none⟩) l.length cap).ownBlock) ⟨x.f0, x.f1, st, x.f3, fs, x.f5, false⟩ (c3 := c3) (c4 := c4) HL3.out HD.out.2.1 HL4.out HD.out.2.2.1; refine Kd.N_store k35 (w0 := w) w.heap.size rfl rfl 35 (.tmp 71) (.tmp 70) rfl 35 i 0 _ ⟨x.f0, x.f1, st, x.f3, fs, x.f5, false⟩ (.agg #[.int .i64 x.f0, .int .i64 x.f1, .int .i64 st, .slice A3 x.f3.length c3, .slice A4 fs.length c4, .string x.f5, .bool false]) [.int .i64 x.f0, .int .i64 x.f1, .int .i64 st, .slice A3 x.f3.length c3, .slice A4 fs.length c4, .string x.f5, .bool false] cc _ (fun k => (w.heap.size ≤ k ∧ k ≠ gb) ∧ some k ≠ (Value.slice (some ⟨g, 0, none⟩) l.length cap).ownBlock) rfl rfl rfl rfl (by rw [show (Tryd.prog.info? 35).map (·.size) = some 7 by kernel_rfl]; rfl) (by intro q hq; simp only [List.mem_cons, List.not_mem_nil, or_false] at hq; rcases hq with rfl | rfl | rfl | rfl | rfl | rfl | rfl <;> rfl) HD.out.1 HP.out.1 HP.out.2 hcl hcc (Nat.le_refl 7) (by rw [show cc.take 0 ++ [.int .i64 x.f0, .int .i64 x.f1, .int .i64 st, .slice A3 x.f3.length c3, .slice A4 fs.length c4, .string x.f5, .bool false] ++ cc.drop (0 + ([.int .i64 x.f0, .int .i64 x.f1, .int .i64 st, .slice A3 x.f3.length c3, .slice A4 fs.length c4, .string x.f5, .bool false] : List Value).length) = [.int .i64 x.f0, .int .i64 x.f1, .int .i64 st, .slice A3 x.f3.length c3, .slice A4 fs.length c4, .string x.f5, .bool false] by rw [List.take_zero, List.nil_append, List.drop_eq_nil_of_le (by rw [hcl]; exact Nat.le_refl 7), List.append_nil]]; exact hM) (fun k hk => ⟨hk.1, fun he => hk.2 (by rw [he]; simp [Value.ownBlock])⟩) HD.out.2.2.2.2.1 ?_; intro w30 hN hB hg; have hne : gb ≠ g := fun he => (hN.1 g (by simp [Value.ownBlock])).2 he.symm; have HD3 := Aside0.mk (show Upd2 w w30 _ _ gb #[.int .i64 x.f0, .int .i64 x.f1, .int .i64 st, .slice A3 x.f3.length c3, .slice A4 fs.length c4, .string x.f5, .bool false] A3 A4 x.f3 fs from ⟨hN, Kd.F_grown HD.out.2.1 hg (fun k hk he => hk.2 (by rw [he]; simp [Value.ownBlock])), Kd.F_grown HD.out.2.2.1 hg (fun k hk he => hk.2 (by rw [he]; simp [Value.ownBlock])), blk_grown HD.out.2.2.2.1 hg (fun he => hne (by injection he)), hB, hgb⟩); clear HD hN hB hg hcl hcc hM hz0 hz1 hz2 hz3 hz4 hz5 hz6; obtain ⟨hz0, hz1, hz2, hz3, hz4, hz5, hz6⟩ := held7 HD3.out.2.2.2.1))
      go_ret2
      exact ⟨_, rfl, by rw [HRR.out, if_neg (fun h => HS2.out h.2), if_pos HSX.out, HFS.out]; have h := HD3.out.1; rw [List.set_set] at h; exact Kd.V_mono (Kd.N_V h) (fun k hk => hk.1), HD3.out.2.2.2.2.1⟩
    have hs2b : (st == 2) = true := by simpa using hs2
    have HS2 := Aside0.mk hs2
    clear hs2
    go_wp2_with (first
      | (go_at_call 52; refine (jobs_state.calls k A4 c4 fs st _ (Kd.F_now HD.out.2.2.1) HL4.out HST.out (HG.out.below HD.out.2.2.2.2.1)).mono ?_; rintro e w21 ⟨rfl, ⟨nd3, rfl⟩⟩; have h_ := HD.out.drewN nd3; clear HD; have HD := Aside0.mk h_; clear h_ hy2 hy4; generalize wr.drewN nd3 = w21 at HD ⊢)
      | ((with_reducible refine gate_store (t := 3) (p := 62) rfl ?_); refine store_event (t := 3) (p := 62) (v := ?vo) (w1 := w21.setCell ⟨gb, 2, none⟩ (.int .i64 st)) ?hg ?ho ?hn ?hr ?_; (case ho => rfl); (case hg => rfl); (case hn => rfl); (case hr => have hq2 : w21.cell? ⟨gb, 2, none⟩ = some (.int .i64 x.f2) := (blk_cell HD.out.2.2.2.1 2).trans rfl; have hf2 := blk_frozen HD.out.2.2.2.1 2; first | (go_simp; done) | (go_simp; rfl)); intro w22 hw; have h_ := HD.out.put 2 (.int .i64 st) (cs' := #[.int .i64 x.f0, .int .i64 x.f1, .int .i64 st, .slice A3 x.f3.length c3, .slice A4 fs.length c4, .string x.f5, .bool x.f6]) rfl; rw [← hw] at h_; clear HD hw; have HD := Aside0.mk h_; clear h_; have hz0 : w22.cell? ⟨gb, 0, none⟩ = some (.int .i64 x.f0) := (blk_cell HD.out.2.2.2.1 0).trans rfl; have hz1 : w22.cell? ⟨gb, 1, none⟩ = some (.int .i64 x.f1) := (blk_cell HD.out.2.2.2.1 1).trans rfl; have hz2 : w22.cell? ⟨gb, 2, none⟩ = some (.int .i64 st) := (blk_cell HD.out.2.2.2.1 2).trans rfl; have hz3 : w22.cell? ⟨gb, 3, none⟩ = some (.slice A3 x.f3.length c3) := (blk_cell HD.out.2.2.2.1 3).trans rfl; have hz4 : w22.cell? ⟨gb, 4, none⟩ = some (.slice A4 fs.length c4) := (blk_cell HD.out.2.2.2.1 4).trans rfl; have hz5 : w22.cell? ⟨gb, 5, none⟩ = some (.string x.f5) := (blk_cell HD.out.2.2.2.1 5).trans rfl)
      | ((with_reducible refine gate_store (t := 4) (p := 67) rfl ?_); refine store_event (t := 4) (p := 67) (v := .const (.bool false)) (w1 := w22.setCell ⟨gb, 6, none⟩ (.bool false)) ?hg ?ho ?hn ?hr ?_; (case ho => rfl); (case hg => rfl); (case hn => rfl); (case hr => have hq6 : w22.cell? ⟨gb, 6, none⟩ = some (.bool x.f6) := (blk_cell HD.out.2.2.2.1 6).trans rfl; have hf6 := blk_frozen HD.out.2.2.2.1 6; first | (go_simp; done) | (go_simp; rfl)); intro w23 hw; have h_ := HD.out.put 6 (.bool false) (cs' := #[.int .i64 x.f0, .int .i64 x.f1, .int .i64 st, .slice A3 x.f3.length c3, .slice A4 fs.length c4, .string x.f5, .bool false]) rfl; rw [← hw] at h_; clear HD hw hz0 hz1 hz2 hz3 hz4 hz5; have HD := Aside0.mk h_; clear h_; obtain ⟨hz0, hz1, hz2, hz3, hz4, hz5, hz6⟩ := held7 HD.out.2.2.2.1)
      | ((with_reducible refine gate_store (t := 35) (p := 71) rfl ?_); obtain ⟨cc, hcl, _, hcc, _⟩ := Kd.N_elem HD.out.1 z35 i HP.out.1 HP.out.2; have hM := k35_mkF w23 (fun k => (w.heap.size ≤ k ∧ k ≠ gb) ∧ some k ≠ (Value.slice (some ⟨g, 0, none⟩) l.length cap).ownBlock) ⟨x.f0, x.f1, st, x.f3, fs, x.f5, false⟩ (c3 := c3) (c4 := c4) HL3.out HD.out.2.1 HL4.out HD.out.2.2.1; refine Kd.N_store k35 (w0 := w) w.heap.size rfl rfl 35 (.tmp 71) (.tmp 70) rfl 35 i 0 _ ⟨x.f0, x.f1, st, x.f3, fs, x.f5, false⟩ (.agg #[.int .i64 x.f0, .int .i64 x.f1, .int .i64 st, .slice A3 x.f3.length c3, .slice A4 fs.length c4, .string x.f5, .bool false]) [.int .i64 x.f0, .int .i64 x.f1, .int .i64 st, .slice A3 x.f3.length c3, .slice A4 fs.length c4, .string x.f5, .bool false] cc _ (fun k => (w.heap.size ≤ k ∧ k ≠ gb) ∧ some k ≠ (Value.slice (some ⟨g, 0, none⟩) l.length cap).ownBlock) rfl rfl rfl rfl (by rw [show (Tryd.prog.info? 35).map (·.size) = some 7 by kernel_rfl]; rfl) (by intro q hq; simp only [List.mem_cons, List.not_mem_nil, or_false] at hq; rcases hq with rfl | rfl | rfl | rfl | rfl | rfl | rfl <;> rfl) HD.out.1 HP.out.1 HP.out.2 hcl hcc (Nat.le_refl 7) (by rw [show cc.take 0 ++ [.int .i64 x.f0, .int .i64 x.f1, .int .i64 st, .slice A3 x.f3.length c3, .slice A4 fs.length c4, .string x.f5, .bool false] ++ cc.drop (0 + ([.int .i64 x.f0, .int .i64 x.f1, .int .i64 st, .slice A3 x.f3.length c3, .slice A4 fs.length c4, .string x.f5, .bool false] : List Value).length) = [.int .i64 x.f0, .int .i64 x.f1, .int .i64 st, .slice A3 x.f3.length c3, .slice A4 fs.length c4, .string x.f5, .bool false] by rw [List.take_zero, List.nil_append, List.drop_eq_nil_of_le (by rw [hcl]; exact Nat.le_refl 7), List.append_nil]]; exact hM) (fun k hk => ⟨hk.1, fun he => hk.2 (by rw [he]; simp [Value.ownBlock])⟩) HD.out.2.2.2.2.1 ?_; intro w30 hN hB hg; have hne : gb ≠ g := fun he => (hN.1 g (by simp [Value.ownBlock])).2 he.symm; have HD3 := Aside0.mk (show Upd2 w w30 _ _ gb #[.int .i64 x.f0, .int .i64 x.f1, .int .i64 st, .slice A3 x.f3.length c3, .slice A4 fs.length c4, .string x.f5, .bool false] A3 A4 x.f3 fs from ⟨hN, Kd.F_grown HD.out.2.1 hg (fun k hk he => hk.2 (by rw [he]; simp [Value.ownBlock])), Kd.F_grown HD.out.2.2.1 hg (fun k hk he => hk.2 (by rw [he]; simp [Value.ownBlock])), blk_grown HD.out.2.2.2.1 hg (fun he => hne (by injection he)), hB, hgb⟩); clear HD hN hB hg hcl hcc hM hz0 hz1 hz2 hz3 hz4 hz5 hz6; obtain ⟨hz0, hz1, hz2, hz3, hz4, hz5, hz6⟩ := held7 HD3.out.2.2.2.1))
    obtain ⟨n, hin⟩ : ∃ n : Nat, i = (n : Int) := ⟨i.toNat, by have := HP.out; omega⟩
    subst hin
    refine start_ (n := 13) (S := fun w' => w'.cell? ⟨gb, 0, none⟩ = some (.int .i64 x.f0) ∧ w'.cell? ⟨gb, 1, none⟩ = some (.int .i64 x.f1) ∧ w'.cell? ⟨gb, 2, none⟩ = some (.int .i64 st) ∧ w'.cell? ⟨gb, 3, none⟩ = some (.slice A3 x.f3.length c3) ∧ w'.cell? ⟨gb, 4, none⟩ = some (.slice A4 fs.length c4) ∧ w'.cell? ⟨gb, 5, none⟩ = some (.string x.f5) ∧ w'.cell? ⟨gb, 6, none⟩ = some (.bool false)) (ds := []) #[false, false, false, false, false, false, false, false, false, false, false, false, false] (by kernel_rfl) rfl rfl ⟨hz0, hz1, hz2, hz3, hz4, hz5, hz6⟩ (fun hHeld => ?_)
    refine with_tabW upd_tab21 upd_bits21 (fun HT_ HW_ => ?_)
    have HD4 := Aside0.mk HD3.out.drew
    clear HD3 hz0 hz1 hz2 hz3 hz4 hz5 hz6
    generalize w30.drew = w31 at HD4 hHeld ⊢
    have HNL := Aside0.mk (show l.length ≤ cap from (Kd.V_reads' (Kd.N_V (base' := 0) HD4.out.1)).2.1)
    have hw1 : wrap64 ((n : Int) + 1) = ((n + 1 : Nat) : Int) := by have := HP.out; have := HSM.out; unfold wrap64; omega
    have f1 := eq_true (show (n : Int) ≤ (cap : Int) by have := HP.out; have := HNL.out; omega)
    have f2 := eq_true (show n ≤ cap by have := HP.out; have := HNL.out; omega)
    have f3 := eq_true (show (n : Int) + 1 ≤ (l.length : Int) by have := HP.out; omega)
    have f4 := eq_true (show n + 1 ≤ l.length by have := HP.out; omega)
    have f5 := eq_true (show l.length ≤ cap from HNL.out)
    have f6 := eq_true (show (l.length : Int) ≤ (cap : Int) by have := HNL.out; omega)
    have f0 := eq_true (show 0 ≤ (n : Int) + 1 by omega)
    obtain ⟨X2, hX2⟩ : ∃ X2 : List Jb, (l.set (n : Int).toNat ⟨x.f0, x.f1, x.f2, x.f3, fs, x.f5, x.f6⟩).set (n : Int).toNat ⟨x.f0, x.f1, st, x.f3, fs, x.f5, false⟩ = X2 := ⟨_, rfl⟩
    rw [hX2] at HD4
    have hXl : X2.length = l.length := by rw [← hX2, List.length_set, List.length_set]
    have hXt : X2.take n = l.take n := by rw [← hX2, Int.toNat_natCast, List.take_set_of_le (Nat.le_refl _), List.take_set_of_le (Nat.le_refl _)]
    have hXd : X2.drop (n + 1) = l.drop (n + 1) := by rw [← hX2, Int.toNat_natCast, List.drop_set_of_lt (Nat.lt_succ_self _), List.drop_set_of_lt (Nat.lt_succ_self _)]
    have hF0 : Kd.F k35 w31 (fun k => w.heap.size ≤ k ∧ k ≠ gb) (some ⟨g, 0, none⟩) X2.length X2 := by rw [hXl]; exact Kd.N_F HD4.out.1
    have hFX : Kd.F k35 w31 (fun k => w.heap.size ≤ k ∧ k ≠ gb) (some ⟨g, 0, none⟩) n (l.take n) := by have h := Kd.F_take hF0 (m := n) (by have := HP.out; omega); rw [hXt, List.length_take, Nat.min_eq_left (by have := HP.out; omega)] at h; exact h
    have HFX := Aside0.mk hFX
    have hFY : cap ≠ n + 1 → Kd.F k35 w31 (fun k => w.heap.size ≤ k ∧ k ≠ gb) (some ⟨g, (n + 1) * 7, none⟩) (l.length - (n + 1)) (l.drop (n + 1)) := by
      intro hc
      have hle : n + 1 ≤ X2.length := by have := HP.out; omega
      have hcl : X2.length ≤ cap := by have := HNL.out; omega
      have h := Kd.F_imp hF0 (fun W' hC => Kd.C_drop hC hle hcl)
      rw [if_neg hc, hXd, List.length_drop] at h
      have e : (Option.map (fun a : Addr => a.add ((n + 1) * k35.sz)) (some ⟨g, 0, none⟩)) = some ⟨g, (n + 1) * 7, none⟩ := by
        rw [show k35.sz = 7 from rfl, Option.map_some]
        unfold Addr.add
        rw [if_neg (by omega)]
        simp
      rw [e] at h
      exact h
    have HFY := Aside0.mk hFY
    clear hFY
    have BK := Aside0.mk HD4.out.2.2.2.1
    have HB := Aside0.mk HD4.out.2.2.2.2.1
    have HF3 := Aside0.mk (Kd.F_bound HD4.out.2.1)
    have HF4 := Aside0.mk (Kd.F_bound HD4.out.2.2.1)
    have HGB := Aside0.mk (show w.heap.size ≤ gb ∧ gb < w31.heap.size from ⟨HD4.out.2.2.2.2.2, blk_lt BK.out⟩)
    clear HD4 hX2 hXl hXt hXd hF0 hFX
    by_cases hlast : n + 1 = l.length
    · have f7 := eq_true hlast
      have f9 : l.length - (n + 1) = 0 := by omega
      have HLT := Aside0.mk hlast
      obtain ⟨i0, hi0, _⟩ := info_parts info35
      clear hlast HFY
      refine pure_ (i := 0) (N := some 81) (v := ?_) (a' := ?_) #[true, false, false, false, false, false, false, false, false, false, false, false, false] rfl rfl (any_of HT_.out (by kernel_rfl)) (fun _ _ _ h => h) (Or.inl ⟨by rfl, ?_⟩) ?_ ?_
      rotate_left
      · intro w'
        go_simp
        with_reducible rfl
      rotate_left
      · simp only [Act.put, List.setIfInBounds_toArray, List.set_cons_zero, List.set_cons_succ, i64_w, i32_w]
        rfl
      refine pure_ (i := 1) (N := some 82) (v := ?_) (a' := ?_) #[true, true, false, false, false, false, false, false, false, false, false, false, false] rfl rfl (any_of HT_.out (by kernel_rfl)) (fun _ _ _ h => h) (Or.inl ⟨by rfl, ?_⟩) ?_ ?_
      rotate_left
      · intro w'
        go_simp
        with_reducible rfl
      rotate_left
      · simp only [Act.put, List.setIfInBounds_toArray, List.set_cons_zero, List.set_cons_succ, i64_w, i32_w]
        rfl
      refine pure_ (i := 2) (N := some 83) (v := ?_) (a' := ?_) #[true, true, true, false, false, false, false, false, false, false, false, false, false] rfl rfl (any_of HT_.out (by kernel_rfl)) (fun _ _ _ h => h) (Or.inl ⟨by rfl, ?_⟩) ?_ ?_
      rotate_left
      · intro w'
        go_simp
        with_reducible rfl
      rotate_left
      · simp only [Act.put, List.setIfInBounds_toArray, List.set_cons_zero, List.set_cons_succ, i64_w, i32_w]
        rfl
      refine pure_ (i := 3) (N := some 84) (v := ?_) (a' := ?_) #[true, true, true, true, false, false, false, false, false, false, false, false, false] rfl rfl (any_of HT_.out (by kernel_rfl)) (fun _ _ _ h => h) (Or.inl ⟨by rfl, ?_⟩) ?_ ?_
      rotate_left
      · intro w'
        go_simp
        with_reducible rfl
      rotate_left
      · simp only [Act.put, List.setIfInBounds_toArray, List.set_cons_zero, List.set_cons_succ, i64_w, i32_w]
        rfl
      refine pure_ (i := 4) (N := some 85) (v := ?_) (a' := ?_) #[true, true, true, true, true, false, false, false, false, false, false, false, false] rfl rfl (any_of HT_.out (by kernel_rfl)) (fun _ _ _ h => h) (Or.inl ⟨by rfl, ?_⟩) ?_ ?_
      rotate_left
      · intro w'
        go_simp
        with_reducible rfl
      rotate_left
      · simp only [Act.put, List.setIfInBounds_toArray, List.set_cons_zero, List.set_cons_succ, i64_w, i32_w]
        rfl
      refine pure_ (i := 5) (N := some 86) (v := ?_) (a' := ?_) #[true, true, true, true, true, true, false, false, false, false, false, false, false] rfl rfl (any_of HT_.out (by kernel_rfl)) (fun _ _ _ h => h) (Or.inl ⟨by rfl, ?_⟩) ?_ ?_
      rotate_left
      · intro w'
        go_simp
        with_reducible rfl
      rotate_left
      · simp only [Act.put, List.setIfInBounds_toArray, List.set_cons_zero, List.set_cons_succ, i64_w, i32_w]
        rfl
      refine pure_ (i := 6) (N := some 87) (v := ?_) (a' := ?_) #[true, true, true, true, true, true, true, false, false, false, false, false, false] rfl rfl (any_of HT_.out (by kernel_rfl)) (fun _ _ _ h => h) (Or.inl ⟨by rfl, ?_⟩) ?_ ?_
      rotate_left
      · intro w'
        go_simp
        with_reducible rfl
      rotate_left
      · simp only [Act.put, List.setIfInBounds_toArray, List.set_cons_zero, List.set_cons_succ, i64_w, i32_w]
        rfl
      refine pure_ (i := 7) (N := some 88) (v := ?_) (a' := ?_) #[true, true, true, true, true, true, true, true, false, false, false, false, false] rfl rfl (any_of HT_.out (by kernel_rfl)) (fun _ _ _ h => h) (Or.inl ⟨by rfl, ?_⟩) ?_ ?_
      rotate_left
      · intro w'
        go_simp
        with_reducible rfl
      rotate_left
      · simp only [Act.put, List.setIfInBounds_toArray, List.set_cons_zero, List.set_cons_succ, i64_w, i32_w]
        rfl
      refine take_ (i := 9) (N := some 90) (v := ?_) (a' := ?_) #[true, true, true, true, true, true, true, true, false, true, false, false, false] rfl rfl (take_ofW HT_.out HW_.out (by kernel_rfl)) (fun _ _ _ h => h) (Or.inl ⟨by rfl, ?_⟩) hHeld ?_ ?_
      rotate_left
      · rintro w' ⟨s0, s1, s2, s3, s4, s5, s6⟩
        go_simp
        with_reducible rfl
      rotate_left
      · simp only [Act.put, List.setIfInBounds_toArray, List.set_cons_zero, List.set_cons_succ, i64_w, i32_w]
        rfl
      refine join_ (σ := Value) 2 #[true, true, true, true, true, true, true, true, true, true, true, false, false] (fun s_ => [(89, .slice (some ⟨g, 0, none⟩) n n), (91, s_)]) (fun s_ w' => (w'.cell? ⟨gb, 0, none⟩ = some (.int .i64 x.f0) ∧ w'.cell? ⟨gb, 1, none⟩ = some (.int .i64 x.f1) ∧ w'.cell? ⟨gb, 2, none⟩ = some (.int .i64 st) ∧ w'.cell? ⟨gb, 3, none⟩ = some (.slice A3 x.f3.length c3) ∧ w'.cell? ⟨gb, 4, none⟩ = some (.slice A4 fs.length c4) ∧ w'.cell? ⟨gb, 5, none⟩ = some (.string x.f5) ∧ w'.cell? ⟨gb, 6, none⟩ = some (.bool false)) ∧ Kd.F k35 w' (fun k_ => w.heap.size ≤ k_ ∧ k_ ≠ gb) (some ⟨g, 0, none⟩) n (l.take n) ∧ (Kd.N k35 35 w' w.heap.size (fun k_ => w.heap.size ≤ k_ ∧ k_ ≠ gb) s_ [⟨x.f0, x.f1, st, x.f3, fs, x.f5, false⟩] ∧ ∃ q, (s_ : Value).ownBlock = some q) ∧ w'.heap[gb]? = some (.cells #[.int .i64 x.f0, .int .i64 x.f1, .int .i64 st, .slice A3 x.f3.length c3, .slice A4 fs.length c4, .string x.f5, .bool false] 35 (0, 0)) ∧ Below w.heap.size w w') ?_ ?_
      rotate_left
      · intro hCont
        refine two_ (i := 8) (j := 10) (Ni := some 89) (Nj := some 91) #[true, true, true, true, true, true, true, true, true, true, false, false, false] #[true, true, true, true, true, true, true, true, false, true, true, false, false] rfl rfl rfl rfl (two_of HT_.out (by kernel_rfl)) (by decide) (by decide) (fun K hK => ?_) (fun K hK => ?_)
        · skip
          refine append_none_step (by rfl) (.tmp 84) (.tmp 88) 22 35 i0 rfl Tryd.underlying22 hi0 _ _ n n _ (Nat.le_refl _) rfl rfl ?_
          refine hK.out _ _ (held7 BK.out) (fun hHeld => ?_)
          clear hK K
          refine norm_ (a' := ?_) ?_ ?_
          rotate_left
          · show Act.put _ (some 89) _ = _
            simp only [Act.put, List.setIfInBounds_toArray, List.set_cons_zero, List.set_cons_succ, i64_w, i32_w]
            rfl
          refine one_ (i := 10) (N := some 91) #[true, true, true, true, true, true, true, true, true, true, true, false, false] rfl rfl (one_of HT_.out (by kernel_rfl)) (by decide) (fun K hK => ?_)
          refine Kd.N_lit_step k35 (w0 := w) w.heap.size 35 (by rfl) (N' := 91) rfl (xs := ([⟨x.f0, x.f1, st, x.f3, fs, x.f5, false⟩] : List Jb)) (inner := [.int .i64 x.f0, .int .i64 x.f1, .int .i64 st, .slice A3 x.f3.length c3, .slice A4 fs.length c4, .string x.f5, .bool false]) (ok := (fun k_ => w.heap.size ≤ k_ ∧ k_ ≠ gb)) (okp := (fun k_ => ((w.heap.size ≤ k_ ∧ k_ ≠ gb) ∧ some k_ ≠ (Value.slice (some ⟨g, 0, none⟩) l.length cap).ownBlock) ∧ k_ < w31.heap.size)) ?hr ?hp (fun k_ hk => hk.1.1) ⟨below_size HB.out, by have := HGB.out; omega⟩ HB.out (below_size HB.out) (by simp) ?_
          (case hr => first | (go_simp; done) | (go_simp; rfl))
          (case hp => exact (Reps.c7 (show Kd.FK k35 _ _ (⟨x.f0, x.f1, st, x.f3, fs, x.f5, false⟩ : Jb) [.int .i64 x.f0, .int .i64 x.f1, .int .i64 st, .slice A3 x.f3.length c3, .slice A4 fs.length c4, .string x.f5, .bool false] from k35_mkF _ _ ⟨x.f0, x.f1, st, x.f3, fs, x.f5, false⟩ (c3 := c3) (c4 := c4) HL3.out HF3.out HL4.out HF4.out) (Reps.none _ _)))
          intro v91 w33 hN9 hb hg hat
          have BK2 := blk_grown BK.out hg (by intro h; cases h)
          have HFX1 := Kd.F_grown HFX.out hg (fun k hk h => by cases h)
          refine hK.out _ _ (held7 BK2) (fun hHeld2 => ?_)
          clear hK K
          refine norm_ (a' := ?_) ?_ ?_
          rotate_left
          · show Act.put _ (some 91) _ = _
            simp only [Act.put, List.setIfInBounds_toArray, List.set_cons_zero, List.set_cons_succ, i64_w, i32_w]
            rfl
          exact norm_ (by simp only [putAll, Act.put, List.setIfInBounds_toArray, List.set_cons_zero, List.set_cons_succ]) (hCont v91 _ ⟨hHeld2, HFX1, ⟨hN9, hat.imp (fun _ h => h.1)⟩, BK2, hb⟩)
        · skip
          refine Kd.N_lit_step k35 (w0 := w) w.heap.size 35 (by rfl) (N' := 91) rfl (xs := ([⟨x.f0, x.f1, st, x.f3, fs, x.f5, false⟩] : List Jb)) (inner := [.int .i64 x.f0, .int .i64 x.f1, .int .i64 st, .slice A3 x.f3.length c3, .slice A4 fs.length c4, .string x.f5, .bool false]) (ok := (fun k_ => w.heap.size ≤ k_ ∧ k_ ≠ gb)) (okp := (fun k_ => ((w.heap.size ≤ k_ ∧ k_ ≠ gb) ∧ some k_ ≠ (Value.slice (some ⟨g, 0, none⟩) l.length cap).ownBlock) ∧ k_ < w31.heap.size)) ?hr ?hp (fun k_ hk => hk.1.1) ⟨below_size HB.out, by have := HGB.out; omega⟩ HB.out (below_size HB.out) (by simp) ?_
          (case hr => first | (go_simp; done) | (go_simp; rfl))
          (case hp => exact (Reps.c7 (show Kd.FK k35 _ _ (⟨x.f0, x.f1, st, x.f3, fs, x.f5, false⟩ : Jb) [.int .i64 x.f0, .int .i64 x.f1, .int .i64 st, .slice A3 x.f3.length c3, .slice A4 fs.length c4, .string x.f5, .bool false] from k35_mkF _ _ ⟨x.f0, x.f1, st, x.f3, fs, x.f5, false⟩ (c3 := c3) (c4 := c4) HL3.out HF3.out HL4.out HF4.out) (Reps.none _ _)))
          intro v91 w33 hN9 hb hg hat
          have BK2 := blk_grown BK.out hg (by intro h; cases h)
          have HFX1 := Kd.F_grown HFX.out hg (fun k hk h => by cases h)
          have HN9 := Aside0.mk hN9
          have HAT := Aside0.mk (hat.imp (fun _ h => h.1))
          have HB2 := Aside0.mk hb
          have BK3 := Aside0.mk BK2
          have HFX2 := Aside0.mk HFX1
          clear hN9 hat hb hg BK2 HFX1
          refine hK.out _ _ (held7 BK3.out) (fun hHeld => ?_)
          clear hK K
          refine norm_ (a' := ?_) ?_ ?_
          rotate_left
          · show Act.put _ (some 91) _ = _
            simp only [Act.put, List.setIfInBounds_toArray, List.set_cons_zero, List.set_cons_succ, i64_w, i32_w]
            rfl
          refine one_ (i := 8) (N := some 89) #[true, true, true, true, true, true, true, true, true, true, true, false, false] rfl rfl (one_of HT_.out (by kernel_rfl)) (by decide) (fun K hK => ?_)
          refine append_none_step (by rfl) (.tmp 84) (.tmp 88) 22 35 i0 rfl Tryd.underlying22 hi0 _ _ n n _ (Nat.le_refl _) rfl rfl ?_
          refine hK.out _ _ (held7 BK3.out) (fun hHeld2 => ?_)
          clear hK K
          refine norm_ (a' := ?_) ?_ ?_
          rotate_left
          · show Act.put _ (some 89) _ = _
            simp only [Act.put, List.setIfInBounds_toArray, List.set_cons_zero, List.set_cons_succ, i64_w, i32_w]
            rfl
          exact norm_ (by simp only [putAll, Act.put, List.setIfInBounds_toArray, List.set_cons_zero, List.set_cons_succ]) (hCont v91 _ ⟨hHeld2, HFX2.out, ⟨HN9.out, HAT.out⟩, BK3.out, HB2.out⟩)
      rintro v91 w33 ⟨hHeld, h0_, ⟨h1_, hq_⟩, h3_, h4_⟩
      obtain ⟨A9, c9, e9⟩ := Kd.N_slice h1_
      subst e9
      obtain ⟨ad9, eA⟩ : ∃ ad, A9 = some ad := by cases A9 with | none => obtain ⟨q, hq⟩ := hq_; simp [Value.ownBlock] at hq | some a => exact ⟨a, rfl⟩
      subst eA
      have HN8 := Aside0.mk h0_
      have HN9 := Aside0.mk h1_
      have BK2 := Aside0.mk h3_
      have HB2 := Aside0.mk h4_
      clear h0_ h1_ h3_ h4_ hq_ HB
      refine norm_ (a' := ?_) ?_ ?_
      rotate_left
      · simp only [putAll, Act.put, List.setIfInBounds_toArray, List.set_cons_zero, List.set_cons_succ]
        rfl
      refine one_ (i := 11) (N := some 92) #[true, true, true, true, true, true, true, true, true, true, true, true, false] rfl rfl (one_of HT_.out (by kernel_rfl)) (by decide) (fun K hK => ?_)
      refine append_full_step k35 (w0 := w) w.heap.size (by rfl) (.tmp 89) (.tmp 91) 22 35 (.agg #[(.int .i64 0), (.int .i64 0), (.int .i64 0), (.slice none 0 0), (.slice none 0 0), (.string ⟨#[]⟩), (.bool false)]) 96 rfl Tryd.underlying22 info35 rfl (by decide) ⟨g, 0, none⟩ ad9 n 1 c9 (l.take n) [⟨x.f0, x.f1, st, x.f3, fs, x.f5, false⟩] (fun k_ => w.heap.size ≤ k_ ∧ k_ ≠ gb) rfl rfl HN8.out (Kd.N_F HN9.out) (by omega) HB2.out (below_size HB2.out) (by have := HSM.out; have := HLT.out; have : maxLen = 9223372036854775807 := rfl; omega) (by have := HSM.out; have := HLT.out; omega) ?_
      intro v92 w34 hN hb hg hfr
      have hNN : Kd.N k35 35 w34 w.heap.size (fun k => (w.heap.size ≤ k ∧ k ≠ gb) ∨ w33.heap.size ≤ k) v92 ((l.take n ++ l.drop (n + 1)) ++ [⟨x.f0, x.f1, st, x.f3, fs, x.f5, false⟩]) := by rw [List.drop_eq_nil_of_le (by have := HLT.out; omega), List.append_nil]; exact hN
      have BK3 := blk_grown BK2.out hg (by intro h; cases h)
      refine hK.out _ _ (held7 BK3) (fun hHeld2 => ?_)
      clear hK K
      refine norm_ (a' := ?_) ?_ ?_
      rotate_left
      · show Act.put _ (some 92) _ = _
        simp only [Act.put, List.setIfInBounds_toArray, List.set_cons_zero, List.set_cons_succ, i64_w, i32_w]
        rfl
      refine pure_ (i := 12) (N := some 9) (v := ?_) (a' := ?_) #[true, true, true, true, true, true, true, true, true, true, true, true, true] rfl rfl (any_of HT_.out (by kernel_rfl)) (fun _ _ _ h => h) (Or.inl ⟨by rfl, ?_⟩) ?_ ?_
      rotate_left
      · intro w'
        go_simp
        with_reducible rfl
      rotate_left
      · simp only [Act.put, List.setIfInBounds_toArray, List.set_cons_zero, List.set_cons_succ, i64_w, i32_w]
        rfl
      refine done_ (done_of HT_.out (by kernel_rfl)) ?_
      try go_wp2
      all_goals go_ret2
      all_goals exact ⟨_, rfl, by rw [HRR.out, if_pos ⟨HSX.out, HS2.out⟩, if_pos HSX.out, HFS.out, Int.toNat_natCast]; exact Kd.V_mono (Kd.N_V hNN) (fun k hk => by first | exact hk.1 | exact hk.elim (fun h => h.1) (fun h => Nat.le_trans (below_size HB2.out) h)), hb⟩
    have hlt : n + 1 < l.length := by have := HP.out; omega
    have f8 := eq_false (show ¬ cap = n + 1 by have := HNL.out; omega)
    have HLT := Aside0.mk hlt
    have hFY := HFY.out (by have := HNL.out; omega)
    have HFY2 := Aside0.mk hFY
    clear hlast hlt hFY HFY
    refine pure_ (i := 0) (N := some 81) (v := ?_) (a' := ?_) #[true, false, false, false, false, false, false, false, false, false, false, false, false] rfl rfl (any_of HT_.out (by kernel_rfl)) (fun _ _ _ h => h) (Or.inl ⟨by rfl, ?_⟩) ?_ ?_
    rotate_left
    · intro w'
      go_simp
      with_reducible rfl
    rotate_left
    · simp only [Act.put, List.setIfInBounds_toArray, List.set_cons_zero, List.set_cons_succ, i64_w, i32_w]
      rfl
    refine pure_ (i := 1) (N := some 82) (v := ?_) (a' := ?_) #[true, true, false, false, false, false, false, false, false, false, false, false, false] rfl rfl (any_of HT_.out (by kernel_rfl)) (fun _ _ _ h => h) (Or.inl ⟨by rfl, ?_⟩) ?_ ?_
    rotate_left
    · intro w'
      go_simp
      with_reducible rfl
    rotate_left
    · simp only [Act.put, List.setIfInBounds_toArray, List.set_cons_zero, List.set_cons_succ, i64_w, i32_w]
      rfl
    refine pure_ (i := 2) (N := some 83) (v := ?_) (a' := ?_) #[true, true, true, false, false, false, false, false, false, false, false, false, false] rfl rfl (any_of HT_.out (by kernel_rfl)) (fun _ _ _ h => h) (Or.inl ⟨by rfl, ?_⟩) ?_ ?_
    rotate_left
    · intro w'
      go_simp
      with_reducible rfl
    rotate_left
    · simp only [Act.put, List.setIfInBounds_toArray, List.set_cons_zero, List.set_cons_succ, i64_w, i32_w]
      rfl
    refine pure_ (i := 3) (N := some 84) (v := ?_) (a' := ?_) #[true, true, true, true, false, false, false, false, false, false, false, false, false] rfl rfl (any_of HT_.out (by kernel_rfl)) (fun _ _ _ h => h) (Or.inl ⟨by rfl, ?_⟩) ?_ ?_
    rotate_left
    · intro w'
      go_simp
      with_reducible rfl
    rotate_left
    · simp only [Act.put, List.setIfInBounds_toArray, List.set_cons_zero, List.set_cons_succ, i64_w, i32_w]
      rfl
    refine pure_ (i := 4) (N := some 85) (v := ?_) (a' := ?_) #[true, true, true, true, true, false, false, false, false, false, false, false, false] rfl rfl (any_of HT_.out (by kernel_rfl)) (fun _ _ _ h => h) (Or.inl ⟨by rfl, ?_⟩) ?_ ?_
    rotate_left
    · intro w'
      go_simp
      with_reducible rfl
    rotate_left
    · simp only [Act.put, List.setIfInBounds_toArray, List.set_cons_zero, List.set_cons_succ, i64_w, i32_w]
      rfl
    refine pure_ (i := 5) (N := some 86) (v := ?_) (a' := ?_) #[true, true, true, true, true, true, false, false, false, false, false, false, false] rfl rfl (any_of HT_.out (by kernel_rfl)) (fun _ _ _ h => h) (Or.inl ⟨by rfl, ?_⟩) ?_ ?_
    rotate_left
    · intro w'
      go_simp
      with_reducible rfl
    rotate_left
    · simp only [Act.put, List.setIfInBounds_toArray, List.set_cons_zero, List.set_cons_succ, i64_w, i32_w]
      rfl
    refine pure_ (i := 6) (N := some 87) (v := ?_) (a' := ?_) #[true, true, true, true, true, true, true, false, false, false, false, false, false] rfl rfl (any_of HT_.out (by kernel_rfl)) (fun _ _ _ h => h) (Or.inl ⟨by rfl, ?_⟩) ?_ ?_
    rotate_left
    · intro w'
      go_simp
      with_reducible rfl
    rotate_left
    · simp only [Act.put, List.setIfInBounds_toArray, List.set_cons_zero, List.set_cons_succ, i64_w, i32_w]
      rfl
    refine pure_ (i := 7) (N := some 88) (v := ?_) (a' := ?_) #[true, true, true, true, true, true, true, true, false, false, false, false, false] rfl rfl (any_of HT_.out (by kernel_rfl)) (fun _ _ _ h => h) (Or.inl ⟨by rfl, ?_⟩) ?_ ?_
    rotate_left
    · intro w'
      go_simp
      with_reducible rfl
    rotate_left
    · simp only [Act.put, List.setIfInBounds_toArray, List.set_cons_zero, List.set_cons_succ, i64_w, i32_w]
      rfl
    refine take_ (i := 9) (N := some 90) (v := ?_) (a' := ?_) #[true, true, true, true, true, true, true, true, false, true, false, false, false] rfl rfl (take_ofW HT_.out HW_.out (by kernel_rfl)) (fun _ _ _ h => h) (Or.inl ⟨by rfl, ?_⟩) hHeld ?_ ?_
    rotate_left
    · rintro w' ⟨s0, s1, s2, s3, s4, s5, s6⟩
      go_simp
      with_reducible rfl
    rotate_left
    · simp only [Act.put, List.setIfInBounds_toArray, List.set_cons_zero, List.set_cons_succ, i64_w, i32_w]
      rfl
    refine join_ (σ := Value × Value) 2 #[true, true, true, true, true, true, true, true, true, true, true, false, false] (fun s_ => [(89, s_.1), (91, s_.2)]) (fun s_ w' => (w'.cell? ⟨gb, 0, none⟩ = some (.int .i64 x.f0) ∧ w'.cell? ⟨gb, 1, none⟩ = some (.int .i64 x.f1) ∧ w'.cell? ⟨gb, 2, none⟩ = some (.int .i64 st) ∧ w'.cell? ⟨gb, 3, none⟩ = some (.slice A3 x.f3.length c3) ∧ w'.cell? ⟨gb, 4, none⟩ = some (.slice A4 fs.length c4) ∧ w'.cell? ⟨gb, 5, none⟩ = some (.string x.f5) ∧ w'.cell? ⟨gb, 6, none⟩ = some (.bool false)) ∧ Kd.N k35 35 w' w.heap.size (fun k_ => (w.heap.size ≤ k_ ∧ k_ ≠ gb) ∧ some k_ ≠ (s_.2 : Value).ownBlock) s_.1 (l.take n ++ l.drop (n + 1)) ∧ Kd.N k35 35 w' w.heap.size (fun k_ => (w.heap.size ≤ k_ ∧ k_ ≠ gb) ∧ some k_ ≠ (s_.1 : Value).ownBlock) s_.2 [⟨x.f0, x.f1, st, x.f3, fs, x.f5, false⟩] ∧ w'.heap[gb]? = some (.cells #[.int .i64 x.f0, .int .i64 x.f1, .int .i64 st, .slice A3 x.f3.length c3, .slice A4 fs.length c4, .string x.f5, .bool false] 35 (0, 0)) ∧ Below w.heap.size w w') ?_ ?_
    rotate_left
    · intro hCont
      refine two_ (i := 8) (j := 10) (Ni := some 89) (Nj := some 91) #[true, true, true, true, true, true, true, true, true, true, false, false, false] #[true, true, true, true, true, true, true, true, false, true, true, false, false] rfl rfl rfl rfl (two_of HT_.out (by kernel_rfl)) (by decide) (by decide) (fun K hK => ?_) (fun K hK => ?_)
      · skip
        refine append_full_step k35 (w0 := w) w.heap.size (by rfl) (.tmp 84) (.tmp 88) 22 35 (.agg #[(.int .i64 0), (.int .i64 0), (.int .i64 0), (.slice none 0 0), (.slice none 0 0), (.string ⟨#[]⟩), (.bool false)]) 96 rfl Tryd.underlying22 info35 rfl (by decide) ⟨g, 0, none⟩ ⟨g, (n + 1) * 7, none⟩ n (l.length - (n + 1)) (cap - (n + 1)) (l.take n) (l.drop (n + 1)) (fun k_ => w.heap.size ≤ k_ ∧ k_ ≠ gb) rfl rfl HFX.out HFY2.out (by have := HLT.out; omega) HB.out (below_size HB.out) (by have := HSM.out; have := HLT.out; have : maxLen = 9223372036854775807 := rfl; omega) (by have := HSM.out; have := HLT.out; omega) ?_
        intro v89 w32 hN hb hg hfr
        have hN2 : Kd.N k35 35 w32 w.heap.size (fun k_ => w.heap.size ≤ k_ ∧ k_ ≠ gb) v89 (l.take n ++ l.drop (n + 1)) := Kd.N_mono hN (fun k hk => hk.elim id (fun h => ⟨by have := HGB.out; omega, by have := HGB.out; omega⟩))
        have BK1 := Aside0.mk (blk_grown BK.out hg (by intro h; cases h))
        have HF31 := Aside0.mk (Kd.F_grown HF3.out hg (fun k hk h => by cases h))
        have HF41 := Aside0.mk (Kd.F_grown HF4.out hg (fun k hk h => by cases h))
        have HN := Aside0.mk hN2
        have HFR := Aside0.mk hfr
        have HB1 := Aside0.mk hb
        have HSZ := Aside0.mk (show w31.heap.size ≤ w32.heap.size from below_size ((Below.refl _ w31).grown hg (Nat.le_refl _) (by intro k hk; cases hk)))
        clear hN hN2 hfr hb hg
        refine hK.out _ _ (held7 BK1.out) (fun hHeld => ?_)
        clear hK K
        refine norm_ (a' := ?_) ?_ ?_
        rotate_left
        · show Act.put _ (some 89) _ = _
          simp only [Act.put, List.setIfInBounds_toArray, List.set_cons_zero, List.set_cons_succ, i64_w, i32_w]
          rfl
        refine one_ (i := 10) (N := some 91) #[true, true, true, true, true, true, true, true, true, true, true, false, false] rfl rfl (one_of HT_.out (by kernel_rfl)) (by decide) (fun K hK => ?_)
        refine Kd.N_lit_step k35 (w0 := w) w.heap.size 35 (by rfl) (N' := 91) rfl (xs := ([⟨x.f0, x.f1, st, x.f3, fs, x.f5, false⟩] : List Jb)) (inner := [.int .i64 x.f0, .int .i64 x.f1, .int .i64 st, .slice A3 x.f3.length c3, .slice A4 fs.length c4, .string x.f5, .bool false]) (ok := (fun k_ => (w.heap.size ≤ k_ ∧ k_ ≠ gb) ∧ some k_ ≠ (v89 : Value).ownBlock)) (okp := (fun k_ => ((w.heap.size ≤ k_ ∧ k_ ≠ gb) ∧ some k_ ≠ (Value.slice (some ⟨g, 0, none⟩) l.length cap).ownBlock) ∧ k_ < w31.heap.size)) ?hr ?hp (fun k_ hk => ⟨hk.1.1, fun he => by have := HFR.out k_ he.symm; have := hk.2; omega⟩) ⟨⟨below_size HB1.out, by have := HGB.out; have := HSZ.out; omega⟩, fun he => by have := Kd.N_lt HN.out _ he.symm; omega⟩ HB1.out (below_size HB1.out) (by simp) ?_
        (case hr => first | (go_simp; done) | (go_simp; rfl))
        (case hp => exact (Reps.c7 (show Kd.FK k35 _ _ (⟨x.f0, x.f1, st, x.f3, fs, x.f5, false⟩ : Jb) [.int .i64 x.f0, .int .i64 x.f1, .int .i64 st, .slice A3 x.f3.length c3, .slice A4 fs.length c4, .string x.f5, .bool false] from k35_mkF _ _ ⟨x.f0, x.f1, st, x.f3, fs, x.f5, false⟩ (c3 := c3) (c4 := c4) HL3.out HF31.out HL4.out HF41.out) (Reps.none _ _)))
        intro v91 w33 hN9 hb hg hat
        have hb' := (Below.refl w32.heap.size w32).grown hg (Nat.le_refl _) (by intro k hk; cases hk)
        have BK2 := blk_grown BK1.out hg (by intro h; cases h)
        refine hK.out _ _ (held7 BK2) (fun hHeld2 => ?_)
        clear hK K
        refine norm_ (a' := ?_) ?_ ?_
        rotate_left
        · show Act.put _ (some 91) _ = _
          simp only [Act.put, List.setIfInBounds_toArray, List.set_cons_zero, List.set_cons_succ, i64_w, i32_w]
          rfl
        exact norm_ (by simp only [putAll, Act.put, List.setIfInBounds_toArray, List.set_cons_zero, List.set_cons_succ]) (hCont (v89, v91) _ ⟨hHeld2, Kd.N_elder' HN.out (fun k hk => by obtain ⟨q, hq, hl⟩ := hat; rw [hq] at hk; injection hk with hk; omega) hb', hN9, BK2, hb⟩)
      · skip
        refine Kd.N_lit_step k35 (w0 := w) w.heap.size 35 (by rfl) (N' := 91) rfl (xs := ([⟨x.f0, x.f1, st, x.f3, fs, x.f5, false⟩] : List Jb)) (inner := [.int .i64 x.f0, .int .i64 x.f1, .int .i64 st, .slice A3 x.f3.length c3, .slice A4 fs.length c4, .string x.f5, .bool false]) (ok := (fun k_ => w.heap.size ≤ k_ ∧ k_ ≠ gb)) (okp := (fun k_ => ((w.heap.size ≤ k_ ∧ k_ ≠ gb) ∧ some k_ ≠ (Value.slice (some ⟨g, 0, none⟩) l.length cap).ownBlock) ∧ k_ < w31.heap.size)) ?hr ?hp (fun k_ hk => hk.1.1) ⟨below_size HB.out, by have := HGB.out; omega⟩ HB.out (below_size HB.out) (by simp) ?_
        (case hr => first | (go_simp; done) | (go_simp; rfl))
        (case hp => exact (Reps.c7 (show Kd.FK k35 _ _ (⟨x.f0, x.f1, st, x.f3, fs, x.f5, false⟩ : Jb) [.int .i64 x.f0, .int .i64 x.f1, .int .i64 st, .slice A3 x.f3.length c3, .slice A4 fs.length c4, .string x.f5, .bool false] from k35_mkF _ _ ⟨x.f0, x.f1, st, x.f3, fs, x.f5, false⟩ (c3 := c3) (c4 := c4) HL3.out HF3.out HL4.out HF4.out) (Reps.none _ _)))
        intro v91 w32 hN9 hb hg hat
        have BK1 := Aside0.mk (blk_grown BK.out hg (by intro h; cases h))
        have HFX1 := Aside0.mk (Kd.F_grown (Kd.F_bound HFX.out) hg (fun k hk h => by cases h))
        have HFY1 := Aside0.mk (Kd.F_grown (Kd.F_bound HFY2.out) hg (fun k hk h => by cases h))
        have HN := Aside0.mk hN9
        have HB1 := Aside0.mk hb
        have HSZ := Aside0.mk (show w31.heap.size ≤ w32.heap.size from below_size ((Below.refl _ w31).grown hg (Nat.le_refl _) (by intro k hk; cases hk)))
        have HAT := Aside0.mk hat
        clear hN9 hb hg hat
        refine hK.out _ _ (held7 BK1.out) (fun hHeld => ?_)
        clear hK K
        refine norm_ (a' := ?_) ?_ ?_
        rotate_left
        · show Act.put _ (some 91) _ = _
          simp only [Act.put, List.setIfInBounds_toArray, List.set_cons_zero, List.set_cons_succ, i64_w, i32_w]
          rfl
        refine one_ (i := 8) (N := some 89) #[true, true, true, true, true, true, true, true, true, true, true, false, false] rfl rfl (one_of HT_.out (by kernel_rfl)) (by decide) (fun K hK => ?_)
        refine append_full_step k35 (w0 := w) w.heap.size (by rfl) (.tmp 84) (.tmp 88) 22 35 (.agg #[(.int .i64 0), (.int .i64 0), (.int .i64 0), (.slice none 0 0), (.slice none 0 0), (.string ⟨#[]⟩), (.bool false)]) 96 rfl Tryd.underlying22 info35 rfl (by decide) ⟨g, 0, none⟩ ⟨g, (n + 1) * 7, none⟩ n (l.length - (n + 1)) (cap - (n + 1)) (l.take n) (l.drop (n + 1)) (fun k_ => (w.heap.size ≤ k_ ∧ k_ ≠ gb) ∧ k_ < w31.heap.size) rfl rfl HFX1.out HFY1.out (by have := HLT.out; omega) HB1.out (below_size HB1.out) (by have := HSM.out; have := HLT.out; have : maxLen = 9223372036854775807 := rfl; omega) (by have := HSM.out; have := HLT.out; omega) ?_
        intro v89 w33 hN hb hg hfr
        have hN2 : Kd.N k35 35 w33 w.heap.size (fun k_ => (w.heap.size ≤ k_ ∧ k_ ≠ gb) ∧ some k_ ≠ (v91 : Value).ownBlock) v89 (l.take n ++ l.drop (n + 1)) := Kd.N_mono hN (fun k hk => by obtain ⟨q, hq, hl⟩ := HAT.out; have hq2 := Kd.N_lt HN.out q hq; exact hk.elim (fun hk => ⟨hk.1, fun he => by rw [hq] at he; injection he with he; have := hk.2; omega⟩) (fun hk => ⟨⟨by have := HGB.out; have := HSZ.out; omega, by have := HGB.out; have := HSZ.out; omega⟩, fun he => by rw [hq] at he; injection he with he; omega⟩))
        have BK2 := blk_grown BK1.out hg (by intro h; cases h)
        have h9 := Kd.N_lt HN.out
        refine hK.out _ _ (held7 BK2) (fun hHeld2 => ?_)
        clear hK K
        refine norm_ (a' := ?_) ?_ ?_
        rotate_left
        · show Act.put _ (some 89) _ = _
          simp only [Act.put, List.setIfInBounds_toArray, List.set_cons_zero, List.set_cons_succ, i64_w, i32_w]
          rfl
        exact norm_ (by simp only [putAll, Act.put, List.setIfInBounds_toArray, List.set_cons_zero, List.set_cons_succ]) (hCont (v89, v91) _ ⟨hHeld2, hN2, Kd.N_elder' HN.out hfr ((Below.refl w32.heap.size w32).grown hg (Nat.le_refl _) (by intro k hk; cases hk)), BK2, hb⟩)
    rintro ⟨v89, v91⟩ w33 ⟨hHeld, h0_, h1_, h3_, h4_⟩
    obtain ⟨A9, c9, e9⟩ := Kd.N_slice h1_
    change v91 = _ at e9
    subst e9
    have HN8 := Aside0.mk h0_
    have HN9 := Aside0.mk h1_
    have BK2 := Aside0.mk h3_
    have HB2 := Aside0.mk h4_
    clear h0_ h1_ h3_ h4_ HB
    refine norm_ (a' := ?_) ?_ ?_
    rotate_left
    · simp only [putAll, Act.put, List.setIfInBounds_toArray, List.set_cons_zero, List.set_cons_succ]
      rfl
    refine one_ (i := 11) (N := some 92) #[true, true, true, true, true, true, true, true, true, true, true, true, false] rfl rfl (one_of HT_.out (by kernel_rfl)) (by decide) (fun K hK => ?_)
    refine Kd.N_append_rows_step k35 (w0 := w) w.heap.size (by rfl) (.tmp 89) (.tmp 91) 22 35 (.agg #[(.int .i64 0), (.int .i64 0), (.int .i64 0), (.slice none 0 0), (.slice none 0 0), (.string ⟨#[]⟩), (.bool false)]) 96 rfl Tryd.underlying22 info35 rfl (by decide) (by omega) v89 (l.take n ++ l.drop (n + 1)) [⟨x.f0, x.f1, st, x.f3, fs, x.f5, false⟩] _ _ _ (fun k_ => w.heap.size ≤ k_ ∧ k_ ≠ gb) (fun k_ => (w.heap.size ≤ k_ ∧ k_ ≠ gb) ∧ some k_ ≠ (v89 : Value).ownBlock) rfl rfl ?aO ?aR (fun _ hk => hk) ?aF ?aB ?aS ?aL ?_
    (case aR => exact Kd.N_F HN9.out)
    (case aB => exact HB2.out)
    (case aF => exact (fun k_ hk => ⟨Nat.le_trans (below_size HB2.out) hk, Kd.freshB (g := gb) (o := .cells #[.int .i64 x.f0, .int .i64 x.f1, .int .i64 st, .slice A3 x.f3.length c3, .slice A4 fs.length c4, .string x.f5, .bool false] 35 (0, 0)) BK2.out k_ hk⟩))
    (case aO => exact Kd.N_mono HN8.out (fun _ hk => hk.1))
    (case aS => exact below_size HB2.out)
    (case aL => have := HSM.out; have := HLT.out; rw [List.length_append, List.length_take, List.length_drop]; show (min n l.length + (l.length - (n + 1)) + 1) * 96 ≤ _; omega)
    intro v92 w34 ho hb hg hat
    have BK3 := blk_grown BK2.out hg (Kd.N_away HN8.out (fun _ hk => hk.1.2))
    refine hK.out _ _ (held7 BK3) (fun hHeld2 => ?_)
    clear hK K
    refine norm_ (a' := ?_) ?_ ?_
    rotate_left
    · show Act.put _ (some 92) _ = _
      simp only [Act.put, List.setIfInBounds_toArray, List.set_cons_zero, List.set_cons_succ, i64_w, i32_w]
      rfl
    refine pure_ (i := 12) (N := some 9) (v := ?_) (a' := ?_) #[true, true, true, true, true, true, true, true, true, true, true, true, true] rfl rfl (any_of HT_.out (by kernel_rfl)) (fun _ _ _ h => h) (Or.inl ⟨by rfl, ?_⟩) ?_ ?_
    rotate_left
    · intro w'
      go_simp
      with_reducible rfl
    rotate_left
    · simp only [Act.put, List.setIfInBounds_toArray, List.set_cons_zero, List.set_cons_succ, i64_w, i32_w]
      rfl
    refine done_ (done_of HT_.out (by kernel_rfl)) ?_
    try go_wp2
    all_goals go_ret2
    all_goals exact ⟨_, rfl, by rw [HRR.out, if_pos ⟨HSX.out, HS2.out⟩, if_pos HSX.out, HFS.out, Int.toNat_natCast]; exact Kd.V_mono (Kd.N_V ho) (fun k hk => by first | exact hk.1 | exact hk.elim (fun h => h.1) (fun h => Nat.le_trans (below_size HB2.out) h)), hb⟩
end Go.Proofs.YthafbimhmfjcoaaDoor.PV
/- jobs.Update, walked: the process belongs to a job. -/
namespace Go.Proofs.YthafbimhmfjcoaaDoor.PV
set_option linter.unusedVariables false
set_option linter.unusedSimpArgs false
open Go.RowKit Go.Proofs.YthafbimhmfjcoaaDoorW.PrintWords Go.Proofs.YthafbimhmfjcoaaDoorW.PrintLast Go.Proofs.YthafbimhmfjcoaaDoorW.PrintMore Go.Proofs.YthafbimhmfjcoaaDoor.JP
set_option maxHeartbeats 8000000 in
set_option maxRecDepth 100000 in
theorem upd_in_other (k : Nat) (l : List Jb) (pid s : Int) (A : Option Addr) (c : Nat) (w : World) (hC : Kd.C k35 w A l.length l) (hc : l.length ≤ c) (hG : Gl w) (i : Int) (h0 : 0 ≤ i) (hil : i < (l.length : Int)) (hm : jobs_member.f k l pid = some i) (hv : jobs_valid.f k s = some true)
    (kd kv : Int) (hkd : status_Kind.f k s = some (kd, kv)) (hs : (kd == 3) = false) (x : Jb) (hx : rd_T35 l i = x) (hlen : x.f3.length ≤ x.f4.length) (ho : jobs_own.f k l = some l) (st : Int) (hst : jobs_state.f k (statsP pid s x.f3 x.f4) = some st) (hsm : l.length ≤ 100000) (RR : List Jb) (hRR : RR = (if st ≠ x.f2 ∧ st = 2 then (l.take i.toNat ++ l.drop (i.toNat + 1)) ++ [⟨x.f0, x.f1, st, x.f3, statsP pid s x.f3 x.f4, x.f5, if st ≠ x.f2 then false else x.f6⟩] else l.set i.toNat ⟨x.f0, x.f1, st, x.f3, statsP pid s x.f3 x.f4, x.f5, if st ≠ x.f2 then false else x.f6⟩)) :
    Calls Tryd.prog 24 #[.slice A l.length c, .int .i64 pid, .int .i64 s] w fun e w' => ∃ v, e = .returned (.tuple #[v, .bool true]) ∧ Kd.V k35 35 w' w.heap.size (fun k_ => w.heap.size ≤ k_) v
      RR ∧ Below w.heap.size w w' := by
  have HC := Aside0.mk hC
  have HL := Aside0.mk hc
  have HG := Aside0.mk hG
  have HM := Aside0.mk hm
  have HV := Aside0.mk hv
  have HKD := Aside0.mk hkd
  have HO := Aside0.mk ho
  have HST := Aside0.mk hst
  have HX := Aside0.mk hx
  have HP := Aside0.mk (show 0 ≤ i ∧ i < (l.length : Int) from ⟨h0, hil⟩)
  have HLN := Aside0.mk hlen
  have HSM := Aside0.mk hsm
  have HRR := Aside0.mk hRR
  clear hC hc hG hm hv hkd ho hst hx hlen hsm hRR
  have h' : decide (i < 0) = false := decide_eq_false (by omega)
  have hu35 := Tryd.underlying35
  replace h0 := eq_true h0
  replace hil := eq_true hil
  go_enter Tryd.func24, Tryd.ntmps24
  go_wp2_with (first
    | (go_at_call 26; refine (jobs_member.calls k A c l pid i _ HC.out HL.out HM.out HG.out).mono ?_; rintro e w1 ⟨rfl, hb⟩; have HB := Aside0.mk hb; clear hb)
    | (go_at_call 50; refine (jobs_valid.calls k s true _ HV.out (HG.out.below HB.out)).mono ?_; rintro e w2 ⟨rfl, ⟨nd, rfl⟩⟩)
    | (go_at_call 27; refine (own_sep k A c l l _ (Kd.C_below HC.out (pw_below_drewN HB.out _)) HL.out HO.out (HG.out.below (pw_below_drewN HB.out _))).mono ?_; rintro e w3 ⟨v0, rfl, hS, hb⟩; have HB3 := Aside0.mk (below_step (pw_below_drewN HB.out _) hb); replace hS := Kd.S_lower hS (below_size (pw_below_drewN HB.out _)); clear hb HB; obtain ⟨g, cap, rfl, _⟩ := Kd.S_form hS (by have := HP.out; omega); obtain ⟨A3, c3, A4, c4, ⟨hx0, hx1, hx2, hx3, hx4, hx5, hx6⟩, hU⟩ := lend_at hS HP.out.1 HP.out.2 x HX.out; have HU := Aside0.mk hU; clear hU hS)
    | ((with_reducible refine gate_dst (N := 10) rfl ?_); refine box_event ?hg (N := 10) ?hd (cs := #[.int .i64 0, .int .i64 0, .int .i64 0, .slice none 0 0, .slice none 0 0, .string (⟨#[]⟩ : ByteArray), .bool false]) (t := 35) ?hr ?_; (case hd => rfl); (case hg => rfl); (case hr => first | (go_simp; done) | (go_simp; rfl)); intro gb hg w8 hbox hb; subst hg; have HBX := Aside0.mk hbox; have HB8 := Aside0.mk hb; clear hbox hb; have hz0 : w8.cell? ⟨w3.heap.size, 0, none⟩ = some (.int .i64 0) := (blk_cell HBX.out 0).trans rfl; have hz1 : w8.cell? ⟨w3.heap.size, 1, none⟩ = some (.int .i64 0) := (blk_cell HBX.out 1).trans rfl; have hz2 : w8.cell? ⟨w3.heap.size, 2, none⟩ = some (.int .i64 0) := (blk_cell HBX.out 2).trans rfl; have hz3 : w8.cell? ⟨w3.heap.size, 3, none⟩ = some (.slice none 0 0) := (blk_cell HBX.out 3).trans rfl; have hz4 : w8.cell? ⟨w3.heap.size, 4, none⟩ = some (.slice none 0 0) := (blk_cell HBX.out 4).trans rfl; have hz5 : w8.cell? ⟨w3.heap.size, 5, none⟩ = some (.string (⟨#[]⟩ : ByteArray)) := (blk_cell HBX.out 5).trans rfl; have hz6 : w8.cell? ⟨w3.heap.size, 6, none⟩ = some (.bool false) := (blk_cell HBX.out 6).trans rfl; obtain ⟨_, _, _, _, _, _, _, hf0, hf1, hf2, hf3, hf4, hf5, hf6⟩ := cells7 HBX.out)
    | (go_at_call 51; have HU9 := Aside0.mk (HU.out (((((((w8.setCell ⟨w3.heap.size, 0, none⟩ (.int .i64 x.f0)).setCell ⟨w3.heap.size, 1, none⟩ (.int .i64 x.f1)).setCell ⟨w3.heap.size, 2, none⟩ (.int .i64 x.f2)).setCell ⟨w3.heap.size, 3, none⟩ (.slice A3 x.f3.length c3)).setCell ⟨w3.heap.size, 4, none⟩ (.slice A4 x.f4.length c4)).setCell ⟨w3.heap.size, 5, none⟩ (.string x.f5)).setCell ⟨w3.heap.size, 6, none⟩ (.bool x.f6)) (fun k hk => by rw [seven_far _ _ _ _ _ _ _ k (by omega)]; exact HB8.out.block k hk) (seven _ _ _ _ _ _ _ HBX.out) (by repeat (first | (with_reducible exact below_step HB3.out HB8.out) | refine below_set ?_ (below_size HB3.out)))); generalize (((((((w8.setCell ⟨w3.heap.size, 0, none⟩ (.int .i64 x.f0)).setCell ⟨w3.heap.size, 1, none⟩ (.int .i64 x.f1)).setCell ⟨w3.heap.size, 2, none⟩ (.int .i64 x.f2)).setCell ⟨w3.heap.size, 3, none⟩ (.slice A3 x.f3.length c3)).setCell ⟨w3.heap.size, 4, none⟩ (.slice A4 x.f4.length c4)).setCell ⟨w3.heap.size, 5, none⟩ (.string x.f5)).setCell ⟨w3.heap.size, 6, none⟩ (.bool x.f6)) = w9 at HU9 ⊢; clear HU HBX HB8 hz0 hz1 hz2 hz3 hz4 hz5 hz6 hf0 hf1 hf2 hf3 hf4 hf5 hf6 hx0 hx1 hx2 hx3 hx4 hx5 hx6; refine (status_Kind.calls k s kd kv _ HKD.out (HG.out.below HU9.out.read.2.1)).mono ?_; rintro e w10 ⟨rfl, ⟨nd2, rfl⟩⟩; have hy3 : w9.cell? ⟨w3.heap.size, 3, none⟩ = some (.slice A3 x.f3.length c3) := (blk_cell HU9.out.read.1 3).trans rfl; replace HU9 := Aside0.mk (HU9.out.drewN nd2)))
  clear hy3
  have hgb : w.heap.size ≤ w3.heap.size := below_size HB3.out
  generalize w3.heap.size = gb at hgb HU9 ⊢
  clear HB3
  go_loopw [43] (fun v wr => ∃ n : Nat, v = .int .i64 n ∧ n ≤ x.f3.length ∧ Aside0 (Upk w wr (.slice (some ⟨g, 0, none⟩) l.length cap) l i gb x (statsP pid s (x.f3.take n) x.f4) (.slice A3 x.f3.length c3) (.slice A4 x.f4.length c4))) (fun v _ => (x.f3.length - (intOf v)).toNat)
  case atStart => exact ⟨0, rfl, Nat.zero_le _, ⟨by rw [List.take_zero, statsP_nil]; exact HU9.out⟩⟩
  case round =>
    obtain ⟨n, rfl, hn, hU⟩ := hrel
    clear HU9
    by_cases hlt : n < x.f3.length
    · obtain ⟨hbk, hB, ⟨A3', c3', e3, hl3, hC3⟩, _⟩ := hU.out.read
      injection e3 with e3a _ e3c
      subst e3a e3c
      obtain ⟨ad, ea, hx⟩ := Kd.at_int hC3 (n : Int) (by omega) (by omega)
      have hfl : (statsP pid s (x.f3.take n) x.f4).length = x.f4.length := statsP_len _ _ _ _
      have hn4 : n < x.f4.length := by have := HLN.out; omega
      obtain ⟨g4, c4', e4, hcell⟩ := hU.out.row4 (by omega)
      injection e4 with e4a _ e4c
      subst ea e4a e4c
      rw [Int.toNat_natCast] at hx
      obtain ⟨hq, hqf⟩ := hcell n (by omega)
      have hy4 : wr.cell? ⟨gb, 4, none⟩ = some (.slice (some ⟨g4, 0, none⟩) x.f4.length c4) := (blk_cell hbk 4).trans rfl
      have hi3 : (n : Int) < (x.f3.length : Int) := by omega
      have hi4 : (n : Int) < (x.f4.length : Int) := by omega
      have hrd : rd x.f3 (n : Int) = x.f3[n] := by simp [rd, hlt]
      rw [hrd] at hx
      have hst := statsP_step pid s x.f3 x.f4 n hlt HLN.out
      have hw1 : wrap64 ((n : Int) + 1) = (n : Int) + 1 := by have := hC3.2.1; unfold wrap64; omega
      clear hbk hB hC3 hl3 hcell hrd
      have HQ := Aside0.mk hU.out
      by_cases hp : x.f3[n] = pid
      rotate_left
      · rw [if_neg hp] at hst
        have hpb : (x.f3[n] == pid) = false := by simpa using hp
        have HSTP := Aside0.mk hst
        clear hst hfl hn4 hp
        go_wp2
        go_roundw
        case rel => exact ⟨n + 1, by rw [hw1]; simp, by omega, ⟨by rw [HSTP.out]; exact HQ.out⟩⟩
        case measure => rw [hw1]; simp [intOf]; omega
      rw [if_pos hp] at hst
      have hpb : (x.f3[n] == pid) = true := by simpa using hp
      have HSTP := Aside0.mk hst
      clear hst hfl hn4 hp
      go_wp2
      go_roundw
      case rel => exact ⟨n + 1, by rw [hw1]; simp, by omega, ⟨by rw [HSTP.out]; exact HQ.out.put n s⟩⟩
      case measure => rw [hw1]; simp [intOf]; omega
    obtain rfl : n = x.f3.length := by omega
    have hfl : (statsP pid s x.f3 x.f4).length = x.f4.length := statsP_len _ _ _ _
    rw [List.take_length, ← hfl] at hU
    clear hn hlt
    obtain ⟨_, _, ⟨A3', c3', e3, hl3, _⟩, ⟨A4', c4', e4, hl4, _⟩⟩ := hU.out.read
    injection e3 with e3a _ e3c
    injection e4 with e4a _ e4c
    subst e3a e3c e4a e4c
    have HD := Aside0.mk (hU.out.done hgb)
    have HL3 := Aside0.mk hl3
    have HL4 := Aside0.mk hl4
    clear hU hl3 hl4 hfl
    obtain ⟨fs, hfs⟩ : ∃ fs, statsP pid s x.f3 x.f4 = fs := ⟨_, rfl⟩
    rw [hfs] at HD HL4 HST
    have HFS := Aside0.mk hfs
    clear hfs
    have hy2 : wr.cell? ⟨gb, 2, none⟩ = some (.int .i64 x.f2) := (blk_cell HD.out.2.2.2.1 2).trans rfl
    have hy4 : wr.cell? ⟨gb, 4, none⟩ = some (.slice A4 fs.length c4) := (blk_cell HD.out.2.2.2.1 4).trans rfl
    by_cases hsx : st = x.f2
    · have hsb : (st == x.f2) = true := by simpa using hsx
      have hsn : (st != x.f2) = false := by simpa using hsx
      have HSX := Aside0.mk hsx
      clear hsx
      go_wp2_with (first
        | (go_at_call 52; refine (jobs_state.calls k A4 c4 fs st _ (Kd.F_now HD.out.2.2.1) HL4.out HST.out (HG.out.below HD.out.2.2.2.2.1)).mono ?_; rintro e w21 ⟨rfl, ⟨nd3, rfl⟩⟩; have h_ := HD.out.drewN nd3; clear HD; have HD := Aside0.mk h_; clear h_ hy2 hy4; generalize wr.drewN nd3 = w21 at HD ⊢)
        | ((with_reducible refine gate_store (t := 3) (p := 62) rfl ?_); refine store_event (t := 3) (p := 62) (v := ?vo) (w1 := w21.setCell ⟨gb, 2, none⟩ (.int .i64 st)) ?hg ?ho ?hn ?hr ?_; (case ho => rfl); (case hg => rfl); (case hn => rfl); (case hr => have hq2 : w21.cell? ⟨gb, 2, none⟩ = some (.int .i64 x.f2) := (blk_cell HD.out.2.2.2.1 2).trans rfl; have hf2 := blk_frozen HD.out.2.2.2.1 2; first | (go_simp; done) | (go_simp; rfl)); intro w22 hw; have h_ := HD.out.put 2 (.int .i64 st) (cs' := #[.int .i64 x.f0, .int .i64 x.f1, .int .i64 st, .slice A3 x.f3.length c3, .slice A4 fs.length c4, .string x.f5, .bool x.f6]) rfl; rw [← hw] at h_; clear HD hw; have HD := Aside0.mk h_; clear h_; obtain ⟨hz0, hz1, hz2, hz3, hz4, hz5, hz6⟩ := held7 HD.out.2.2.2.1)
        | ((with_reducible refine gate_store (t := 35) (p := 71) rfl ?_); obtain ⟨cc, hcl, _, hcc, _⟩ := Kd.N_elem HD.out.1 z35 i HP.out.1 HP.out.2; have hM := k35_mkF w22 (fun k => (w.heap.size ≤ k ∧ k ≠ gb) ∧ some k ≠ (Value.slice (some ⟨g, 0, none⟩) l.length cap).ownBlock) ⟨x.f0, x.f1, st, x.f3, fs, x.f5, x.f6⟩ (c3 := c3) (c4 := c4) HL3.out HD.out.2.1 HL4.out HD.out.2.2.1; refine Kd.N_store k35 (w0 := w) w.heap.size rfl rfl 35 (.tmp 71) (.tmp 70) rfl 35 i 0 _ ⟨x.f0, x.f1, st, x.f3, fs, x.f5, x.f6⟩ (.agg #[.int .i64 x.f0, .int .i64 x.f1, .int .i64 st, .slice A3 x.f3.length c3, .slice A4 fs.length c4, .string x.f5, .bool x.f6]) [.int .i64 x.f0, .int .i64 x.f1, .int .i64 st, .slice A3 x.f3.length c3, .slice A4 fs.length c4, .string x.f5, .bool x.f6] cc _ (fun k => (w.heap.size ≤ k ∧ k ≠ gb) ∧ some k ≠ (Value.slice (some ⟨g, 0, none⟩) l.length cap).ownBlock) rfl rfl rfl rfl (by rw [show (Tryd.prog.info? 35).map (·.size) = some 7 by kernel_rfl]; rfl) (by intro q hq; simp only [List.mem_cons, List.not_mem_nil, or_false] at hq; rcases hq with rfl | rfl | rfl | rfl | rfl | rfl | rfl <;> rfl) HD.out.1 HP.out.1 HP.out.2 hcl hcc (Nat.le_refl 7) (by rw [show cc.take 0 ++ [.int .i64 x.f0, .int .i64 x.f1, .int .i64 st, .slice A3 x.f3.length c3, .slice A4 fs.length c4, .string x.f5, .bool x.f6] ++ cc.drop (0 + ([.int .i64 x.f0, .int .i64 x.f1, .int .i64 st, .slice A3 x.f3.length c3, .slice A4 fs.length c4, .string x.f5, .bool x.f6] : List Value).length) = [.int .i64 x.f0, .int .i64 x.f1, .int .i64 st, .slice A3 x.f3.length c3, .slice A4 fs.length c4, .string x.f5, .bool x.f6] by rw [List.take_zero, List.nil_append, List.drop_eq_nil_of_le (by rw [hcl]; exact Nat.le_refl 7), List.append_nil]]; exact hM) (fun k hk => ⟨hk.1, fun he => hk.2 (by rw [he]; simp [Value.ownBlock])⟩) HD.out.2.2.2.2.1 ?_; intro w30 hN hB hg; have hne : gb ≠ g := fun he => (hN.1 g (by simp [Value.ownBlock])).2 he.symm; have HD3 := Aside0.mk (show Upd2 w w30 _ _ gb #[.int .i64 x.f0, .int .i64 x.f1, .int .i64 st, .slice A3 x.f3.length c3, .slice A4 fs.length c4, .string x.f5, .bool x.f6] A3 A4 x.f3 fs from ⟨hN, Kd.F_grown HD.out.2.1 hg (fun k hk he => hk.2 (by rw [he]; simp [Value.ownBlock])), Kd.F_grown HD.out.2.2.1 hg (fun k hk he => hk.2 (by rw [he]; simp [Value.ownBlock])), blk_grown HD.out.2.2.2.1 hg (fun he => hne (by injection he)), hB, hgb⟩); clear HD hN hB hg hcl hcc hM hz0 hz1 hz2 hz3 hz4 hz5 hz6; obtain ⟨hz0, hz1, hz2, hz3, hz4, hz5, hz6⟩ := held7 HD3.out.2.2.2.1))
      go_ret2
      exact ⟨_, rfl, by rw [HRR.out, if_neg (fun h => h.1 HSX.out), if_neg (fun h => h HSX.out), HFS.out]; have h := HD3.out.1; rw [List.set_set] at h; exact Kd.V_mono (Kd.N_V h) (fun k hk => hk.1), HD3.out.2.2.2.2.1⟩
    have hsb : (st == x.f2) = false := by simpa using hsx
    have hsn : (st != x.f2) = true := by simpa using hsx
    have HSX := Aside0.mk hsx
    clear hsx
    by_cases hs2 : st = 2
    rotate_left
    · have hs2b : (st == 2) = false := by simpa using hs2
      have HS2 := Aside0.mk hs2
      clear hs2
      go_wp2_with (first
        | (go_at_call 52; refine (jobs_state.calls k A4 c4 fs st _ (Kd.F_now HD.out.2.2.1) HL4.out HST.out (HG.out.below HD.out.2.2.2.2.1)).mono ?_; rintro e w21 ⟨rfl, ⟨nd3, rfl⟩⟩; have h_ := HD.out.drewN nd3; clear HD; have HD := Aside0.mk h_; clear h_ hy2 hy4; generalize wr.drewN nd3 = w21 at HD ⊢)
        | ((with_reducible refine gate_store (t := 3) (p := 62) rfl ?_); refine store_event (t := 3) (p := 62) (v := ?vo) (w1 := w21.setCell ⟨gb, 2, none⟩ (.int .i64 st)) ?hg ?ho ?hn ?hr ?_; (case ho => rfl); (case hg => rfl); (case hn => rfl); (case hr => have hq2 : w21.cell? ⟨gb, 2, none⟩ = some (.int .i64 x.f2) := (blk_cell HD.out.2.2.2.1 2).trans rfl; have hf2 := blk_frozen HD.out.2.2.2.1 2; first | (go_simp; done) | (go_simp; rfl)); intro w22 hw; have h_ := HD.out.put 2 (.int .i64 st) (cs' := #[.int .i64 x.f0, .int .i64 x.f1, .int .i64 st, .slice A3 x.f3.length c3, .slice A4 fs.length c4, .string x.f5, .bool x.f6]) rfl; rw [← hw] at h_; clear HD hw; have HD := Aside0.mk h_; clear h_; have hz0 : w22.cell? ⟨gb, 0, none⟩ = some (.int .i64 x.f0) := (blk_cell HD.out.2.2.2.1 0).trans rfl; have hz1 : w22.cell? ⟨gb, 1, none⟩ = some (.int .i64 x.f1) := (blk_cell HD.out.2.2.2.1 1).trans rfl; have hz2 : w22.cell? ⟨gb, 2, none⟩ = some (.int .i64 st) := (blk_cell HD.out.2.2.2.1 2).trans rfl; have hz3 : w22.cell? ⟨gb, 3, none⟩ = some (.slice A3 x.f3.length c3) := (blk_cell HD.out.2.2.2.1 3).trans rfl; have hz4 : w22.cell? ⟨gb, 4, none⟩ = some (.slice A4 fs.length c4) := (blk_cell HD.out.2.2.2.1 4).trans rfl; have hz5 : w22.cell? ⟨gb, 5, none⟩ = some (.string x.f5) := (blk_cell HD.out.2.2.2.1 5).trans rfl)
        | ((with_reducible refine gate_store (t := 4) (p := 67) rfl ?_); refine store_event (t := 4) (p := 67) (v := .const (.bool false)) (w1 := w22.setCell ⟨gb, 6, none⟩ (.bool false)) ?hg ?ho ?hn ?hr ?_; (case ho => rfl); (case hg => rfl); (case hn => rfl); (case hr => have hq6 : w22.cell? ⟨gb, 6, none⟩ = some (.bool x.f6) := (blk_cell HD.out.2.2.2.1 6).trans rfl; have hf6 := blk_frozen HD.out.2.2.2.1 6; first | (go_simp; done) | (go_simp; rfl)); intro w23 hw; have h_ := HD.out.put 6 (.bool false) (cs' := #[.int .i64 x.f0, .int .i64 x.f1, .int .i64 st, .slice A3 x.f3.length c3, .slice A4 fs.length c4, .string x.f5, .bool false]) rfl; rw [← hw] at h_; clear HD hw hz0 hz1 hz2 hz3 hz4 hz5; have HD := Aside0.mk h_; clear h_; obtain ⟨hz0, hz1, hz2, hz3, hz4, hz5, hz6⟩ := held7 HD.out.2.2.2.1)
        | ((with_reducible refine gate_store (t := 35) (p := 71) rfl ?_); obtain ⟨cc, hcl, _, hcc, _⟩ := Kd.N_elem HD.out.1 z35 i HP.out.1 HP.out.2; have hM := k35_mkF w23 (fun k => (w.heap.size ≤ k ∧ k ≠ gb) ∧ some k ≠ (Value.slice (some ⟨g, 0, none⟩) l.length cap).ownBlock) ⟨x.f0, x.f1, st, x.f3, fs, x.f5, false⟩ (c3 := c3) (c4 := c4) HL3.out HD.out.2.1 HL4.out HD.out.2.2.1; refine Kd.N_store k35 (w0 := w) w.heap.size rfl rfl 35 (.tmp 71) (.tmp 70) rfl 35 i 0 _ ⟨x.f0, x.f1, st, x.f3, fs, x.f5, false⟩ (.agg #[.int .i64 x.f0, .int .i64 x.f1, .int .i64 st, .slice A3 x.f3.length c3, .slice A4 fs.length c4, .string x.f5, .bool false]) [.int .i64 x.f0, .int .i64 x.f1, .int .i64 st, .slice A3 x.f3.length c3, .slice A4 fs.length c4, .string x.f5, .bool false] cc _ (fun k => (w.heap.size ≤ k ∧ k ≠ gb) ∧ some k ≠ (Value.slice (some ⟨g, 0, none⟩) l.length cap).ownBlock) rfl rfl rfl rfl (by rw [show (Tryd.prog.info? 35).map (·.size) = some 7 by kernel_rfl]; rfl) (by intro q hq; simp only [List.mem_cons, List.not_mem_nil, or_false] at hq; rcases hq with rfl | rfl | rfl | rfl | rfl | rfl | rfl <;> rfl) HD.out.1 HP.out.1 HP.out.2 hcl hcc (Nat.le_refl 7) (by rw [show cc.take 0 ++ [.int .i64 x.f0, .int .i64 x.f1, .int .i64 st, .slice A3 x.f3.length c3, .slice A4 fs.length c4, .string x.f5, .bool false] ++ cc.drop (0 + ([.int .i64 x.f0, .int .i64 x.f1, .int .i64 st, .slice A3 x.f3.length c3, .slice A4 fs.length c4, .string x.f5, .bool false] : List Value).length) = [.int .i64 x.f0, .int .i64 x.f1, .int .i64 st, .slice A3 x.f3.length c3, .slice A4 fs.length c4, .string x.f5, .bool false] by rw [List.take_zero, List.nil_append, List.drop_eq_nil_of_le (by rw [hcl]; exact Nat.le_refl 7), List.append_nil]]; exact hM) (fun k hk => ⟨hk.1, fun he => hk.2 (by rw [he]; simp [Value.ownBlock])⟩) HD.out.2.2.2.2.1 ?_; intro w30 hN hB hg; have hne : gb ≠ g := fun he => (hN.1 g (by simp [Value.ownBlock])).2 he.symm; have HD3 := Aside0.mk (show Upd2 w w30 _ _ gb #[.int .i64 x.f0, .int .i64 x.f1, .int .i64 st, .slice A3 x.f3.length c3, .slice A4 fs.length c4, .string x.f5, .bool false] A3 A4 x.f3 fs from ⟨hN, Kd.F_grown HD.out.2.1 hg (fun k hk he => hk.2 (by rw [he]; simp [Value.ownBlock])), Kd.F_grown HD.out.2.2.1 hg (fun k hk he => hk.2 (by rw [he]; simp [Value.ownBlock])), blk_grown HD.out.2.2.2.1 hg (fun he => hne (by injection he)), hB, hgb⟩); clear HD hN hB hg hcl hcc hM hz0 hz1 hz2 hz3 hz4 hz5 hz6; obtain ⟨hz0, hz1, hz2, hz3, hz4, hz5, hz6⟩ := held7 HD3.out.2.2.2.1))
      go_ret2
      exact ⟨_, rfl, by rw [HRR.out, if_neg (fun h => HS2.out h.2), if_pos HSX.out, HFS.out]; have h := HD3.out.1; rw [List.set_set] at h; exact Kd.V_mono (Kd.N_V h) (fun k hk => hk.1), HD3.out.2.2.2.2.1⟩
    have hs2b : (st == 2) = true := by simpa using hs2
    have HS2 := Aside0.mk hs2
    clear hs2
    go_wp2_with (first
      | (go_at_call 52; refine (jobs_state.calls k A4 c4 fs st _ (Kd.F_now HD.out.2.2.1) HL4.out HST.out (HG.out.below HD.out.2.2.2.2.1)).mono ?_; rintro e w21 ⟨rfl, ⟨nd3, rfl⟩⟩; have h_ := HD.out.drewN nd3; clear HD; have HD := Aside0.mk h_; clear h_ hy2 hy4; generalize wr.drewN nd3 = w21 at HD ⊢)
      | ((with_reducible refine gate_store (t := 3) (p := 62) rfl ?_); refine store_event (t := 3) (p := 62) (v := ?vo) (w1 := w21.setCell ⟨gb, 2, none⟩ (.int .i64 st)) ?hg ?ho ?hn ?hr ?_; (case ho => rfl); (case hg => rfl); (case hn => rfl); (case hr => have hq2 : w21.cell? ⟨gb, 2, none⟩ = some (.int .i64 x.f2) := (blk_cell HD.out.2.2.2.1 2).trans rfl; have hf2 := blk_frozen HD.out.2.2.2.1 2; first | (go_simp; done) | (go_simp; rfl)); intro w22 hw; have h_ := HD.out.put 2 (.int .i64 st) (cs' := #[.int .i64 x.f0, .int .i64 x.f1, .int .i64 st, .slice A3 x.f3.length c3, .slice A4 fs.length c4, .string x.f5, .bool x.f6]) rfl; rw [← hw] at h_; clear HD hw; have HD := Aside0.mk h_; clear h_; have hz0 : w22.cell? ⟨gb, 0, none⟩ = some (.int .i64 x.f0) := (blk_cell HD.out.2.2.2.1 0).trans rfl; have hz1 : w22.cell? ⟨gb, 1, none⟩ = some (.int .i64 x.f1) := (blk_cell HD.out.2.2.2.1 1).trans rfl; have hz2 : w22.cell? ⟨gb, 2, none⟩ = some (.int .i64 st) := (blk_cell HD.out.2.2.2.1 2).trans rfl; have hz3 : w22.cell? ⟨gb, 3, none⟩ = some (.slice A3 x.f3.length c3) := (blk_cell HD.out.2.2.2.1 3).trans rfl; have hz4 : w22.cell? ⟨gb, 4, none⟩ = some (.slice A4 fs.length c4) := (blk_cell HD.out.2.2.2.1 4).trans rfl; have hz5 : w22.cell? ⟨gb, 5, none⟩ = some (.string x.f5) := (blk_cell HD.out.2.2.2.1 5).trans rfl)
      | ((with_reducible refine gate_store (t := 4) (p := 67) rfl ?_); refine store_event (t := 4) (p := 67) (v := .const (.bool false)) (w1 := w22.setCell ⟨gb, 6, none⟩ (.bool false)) ?hg ?ho ?hn ?hr ?_; (case ho => rfl); (case hg => rfl); (case hn => rfl); (case hr => have hq6 : w22.cell? ⟨gb, 6, none⟩ = some (.bool x.f6) := (blk_cell HD.out.2.2.2.1 6).trans rfl; have hf6 := blk_frozen HD.out.2.2.2.1 6; first | (go_simp; done) | (go_simp; rfl)); intro w23 hw; have h_ := HD.out.put 6 (.bool false) (cs' := #[.int .i64 x.f0, .int .i64 x.f1, .int .i64 st, .slice A3 x.f3.length c3, .slice A4 fs.length c4, .string x.f5, .bool false]) rfl; rw [← hw] at h_; clear HD hw hz0 hz1 hz2 hz3 hz4 hz5; have HD := Aside0.mk h_; clear h_; obtain ⟨hz0, hz1, hz2, hz3, hz4, hz5, hz6⟩ := held7 HD.out.2.2.2.1)
      | ((with_reducible refine gate_store (t := 35) (p := 71) rfl ?_); obtain ⟨cc, hcl, _, hcc, _⟩ := Kd.N_elem HD.out.1 z35 i HP.out.1 HP.out.2; have hM := k35_mkF w23 (fun k => (w.heap.size ≤ k ∧ k ≠ gb) ∧ some k ≠ (Value.slice (some ⟨g, 0, none⟩) l.length cap).ownBlock) ⟨x.f0, x.f1, st, x.f3, fs, x.f5, false⟩ (c3 := c3) (c4 := c4) HL3.out HD.out.2.1 HL4.out HD.out.2.2.1; refine Kd.N_store k35 (w0 := w) w.heap.size rfl rfl 35 (.tmp 71) (.tmp 70) rfl 35 i 0 _ ⟨x.f0, x.f1, st, x.f3, fs, x.f5, false⟩ (.agg #[.int .i64 x.f0, .int .i64 x.f1, .int .i64 st, .slice A3 x.f3.length c3, .slice A4 fs.length c4, .string x.f5, .bool false]) [.int .i64 x.f0, .int .i64 x.f1, .int .i64 st, .slice A3 x.f3.length c3, .slice A4 fs.length c4, .string x.f5, .bool false] cc _ (fun k => (w.heap.size ≤ k ∧ k ≠ gb) ∧ some k ≠ (Value.slice (some ⟨g, 0, none⟩) l.length cap).ownBlock) rfl rfl rfl rfl (by rw [show (Tryd.prog.info? 35).map (·.size) = some 7 by kernel_rfl]; rfl) (by intro q hq; simp only [List.mem_cons, List.not_mem_nil, or_false] at hq; rcases hq with rfl | rfl | rfl | rfl | rfl | rfl | rfl <;> rfl) HD.out.1 HP.out.1 HP.out.2 hcl hcc (Nat.le_refl 7) (by rw [show cc.take 0 ++ [.int .i64 x.f0, .int .i64 x.f1, .int .i64 st, .slice A3 x.f3.length c3, .slice A4 fs.length c4, .string x.f5, .bool false] ++ cc.drop (0 + ([.int .i64 x.f0, .int .i64 x.f1, .int .i64 st, .slice A3 x.f3.length c3, .slice A4 fs.length c4, .string x.f5, .bool false] : List Value).length) = [.int .i64 x.f0, .int .i64 x.f1, .int .i64 st, .slice A3 x.f3.length c3, .slice A4 fs.length c4, .string x.f5, .bool false] by rw [List.take_zero, List.nil_append, List.drop_eq_nil_of_le (by rw [hcl]; exact Nat.le_refl 7), List.append_nil]]; exact hM) (fun k hk => ⟨hk.1, fun he => hk.2 (by rw [he]; simp [Value.ownBlock])⟩) HD.out.2.2.2.2.1 ?_; intro w30 hN hB hg; have hne : gb ≠ g := fun he => (hN.1 g (by simp [Value.ownBlock])).2 he.symm; have HD3 := Aside0.mk (show Upd2 w w30 _ _ gb #[.int .i64 x.f0, .int .i64 x.f1, .int .i64 st, .slice A3 x.f3.length c3, .slice A4 fs.length c4, .string x.f5, .bool false] A3 A4 x.f3 fs from ⟨hN, Kd.F_grown HD.out.2.1 hg (fun k hk he => hk.2 (by rw [he]; simp [Value.ownBlock])), Kd.F_grown HD.out.2.2.1 hg (fun k hk he => hk.2 (by rw [he]; simp [Value.ownBlock])), blk_grown HD.out.2.2.2.1 hg (fun he => hne (by injection he)), hB, hgb⟩); clear HD hN hB hg hcl hcc hM hz0 hz1 hz2 hz3 hz4 hz5 hz6; obtain ⟨hz0, hz1, hz2, hz3, hz4, hz5, hz6⟩ := held7 HD3.out.2.2.2.1))
    obtain ⟨n, hin⟩ : ∃ n : Nat, i = (n : Int) := ⟨i.toNat, by have := HP.out; omega⟩
    subst hin
    refine start_ (n := 13) (S := fun w' => w'.cell? ⟨gb, 0, none⟩ = some (.int .i64 x.f0) ∧ w'.cell? ⟨gb, 1, none⟩ = some (.int .i64 x.f1) ∧ w'.cell? ⟨gb, 2, none⟩ = some (.int .i64 st) ∧ w'.cell? ⟨gb, 3, none⟩ = some (.slice A3 x.f3.length c3) ∧ w'.cell? ⟨gb, 4, none⟩ = some (.slice A4 fs.length c4) ∧ w'.cell? ⟨gb, 5, none⟩ = some (.string x.f5) ∧ w'.cell? ⟨gb, 6, none⟩ = some (.bool false)) (ds := []) #[false, false, false, false, false, false, false, false, false, false, false, false, false] (by kernel_rfl) rfl rfl ⟨hz0, hz1, hz2, hz3, hz4, hz5, hz6⟩ (fun hHeld => ?_)
    refine with_tabW upd_tab21 upd_bits21 (fun HT_ HW_ => ?_)
    have HD4 := Aside0.mk HD3.out.drew
    clear HD3 hz0 hz1 hz2 hz3 hz4 hz5 hz6
    generalize w30.drew = w31 at HD4 hHeld ⊢
    have HNL := Aside0.mk (show l.length ≤ cap from (Kd.V_reads' (Kd.N_V (base' := 0) HD4.out.1)).2.1)
    have hw1 : wrap64 ((n : Int) + 1) = ((n + 1 : Nat) : Int) := by have := HP.out; have := HSM.out; unfold wrap64; omega
    have f1 := eq_true (show (n : Int) ≤ (cap : Int) by have := HP.out; have := HNL.out; omega)
    have f2 := eq_true (show n ≤ cap by have := HP.out; have := HNL.out; omega)
    have f3 := eq_true (show (n : Int) + 1 ≤ (l.length : Int) by have := HP.out; omega)
    have f4 := eq_true (show n + 1 ≤ l.length by have := HP.out; omega)
    have f5 := eq_true (show l.length ≤ cap from HNL.out)
    have f6 := eq_true (show (l.length : Int) ≤ (cap : Int) by have := HNL.out; omega)
    have f0 := eq_true (show 0 ≤ (n : Int) + 1 by omega)
    obtain ⟨X2, hX2⟩ : ∃ X2 : List Jb, (l.set (n : Int).toNat ⟨x.f0, x.f1, x.f2, x.f3, fs, x.f5, x.f6⟩).set (n : Int).toNat ⟨x.f0, x.f1, st, x.f3, fs, x.f5, false⟩ = X2 := ⟨_, rfl⟩
    rw [hX2] at HD4
    have hXl : X2.length = l.length := by rw [← hX2, List.length_set, List.length_set]
    have hXt : X2.take n = l.take n := by rw [← hX2, Int.toNat_natCast, List.take_set_of_le (Nat.le_refl _), List.take_set_of_le (Nat.le_refl _)]
    have hXd : X2.drop (n + 1) = l.drop (n + 1) := by rw [← hX2, Int.toNat_natCast, List.drop_set_of_lt (Nat.lt_succ_self _), List.drop_set_of_lt (Nat.lt_succ_self _)]
    have hF0 : Kd.F k35 w31 (fun k => w.heap.size ≤ k ∧ k ≠ gb) (some ⟨g, 0, none⟩) X2.length X2 := by rw [hXl]; exact Kd.N_F HD4.out.1
    have hFX : Kd.F k35 w31 (fun k => w.heap.size ≤ k ∧ k ≠ gb) (some ⟨g, 0, none⟩) n (l.take n) := by have h := Kd.F_take hF0 (m := n) (by have := HP.out; omega); rw [hXt, List.length_take, Nat.min_eq_left (by have := HP.out; omega)] at h; exact h
    have HFX := Aside0.mk hFX
    have hFY : cap ≠ n + 1 → Kd.F k35 w31 (fun k => w.heap.size ≤ k ∧ k ≠ gb) (some ⟨g, (n + 1) * 7, none⟩) (l.length - (n + 1)) (l.drop (n + 1)) := by
      intro hc
      have hle : n + 1 ≤ X2.length := by have := HP.out; omega
      have hcl : X2.length ≤ cap := by have := HNL.out; omega
      have h := Kd.F_imp hF0 (fun W' hC => Kd.C_drop hC hle hcl)
      rw [if_neg hc, hXd, List.length_drop] at h
      have e : (Option.map (fun a : Addr => a.add ((n + 1) * k35.sz)) (some ⟨g, 0, none⟩)) = some ⟨g, (n + 1) * 7, none⟩ := by
        rw [show k35.sz = 7 from rfl, Option.map_some]
        unfold Addr.add
        rw [if_neg (by omega)]
        simp
      rw [e] at h
      exact h
    have HFY := Aside0.mk hFY
    clear hFY
    have BK := Aside0.mk HD4.out.2.2.2.1
    have HB := Aside0.mk HD4.out.2.2.2.2.1
    have HF3 := Aside0.mk (Kd.F_bound HD4.out.2.1)
    have HF4 := Aside0.mk (Kd.F_bound HD4.out.2.2.1)
    have HGB := Aside0.mk (show w.heap.size ≤ gb ∧ gb < w31.heap.size from ⟨HD4.out.2.2.2.2.2, blk_lt BK.out⟩)
    clear HD4 hX2 hXl hXt hXd hF0 hFX
    by_cases hlast : n + 1 = l.length
    · have f7 := eq_true hlast
      have f9 : l.length - (n + 1) = 0 := by omega
      have HLT := Aside0.mk hlast
      obtain ⟨i0, hi0, _⟩ := info_parts info35
      clear hlast HFY
      refine pure_ (i := 0) (N := some 81) (v := ?_) (a' := ?_) #[true, false, false, false, false, false, false, false, false, false, false, false, false] rfl rfl (any_of HT_.out (by kernel_rfl)) (fun _ _ _ h => h) (Or.inl ⟨by rfl, ?_⟩) ?_ ?_
      rotate_left
      · intro w'
        go_simp
        with_reducible rfl
      rotate_left
      · simp only [Act.put, List.setIfInBounds_toArray, List.set_cons_zero, List.set_cons_succ, i64_w, i32_w]
        rfl
      refine pure_ (i := 1) (N := some 82) (v := ?_) (a' := ?_) #[true, true, false, false, false, false, false, false, false, false, false, false, false] rfl rfl (any_of HT_.out (by kernel_rfl)) (fun _ _ _ h => h) (Or.inl ⟨by rfl, ?_⟩) ?_ ?_
      rotate_left
      · intro w'
        go_simp
        with_reducible rfl
      rotate_left
      · simp only [Act.put, List.setIfInBounds_toArray, List.set_cons_zero, List.set_cons_succ, i64_w, i32_w]
        rfl
      refine pure_ (i := 2) (N := some 83) (v := ?_) (a' := ?_) #[true, true, true, false, false, false, false, false, false, false, false, false, false] rfl rfl (any_of HT_.out (by kernel_rfl)) (fun _ _ _ h => h) (Or.inl ⟨by rfl, ?_⟩) ?_ ?_
      rotate_left
      · intro w'
        go_simp
        with_reducible rfl
      rotate_left
      · simp only [Act.put, List.setIfInBounds_toArray, List.set_cons_zero, List.set_cons_succ, i64_w, i32_w]
        rfl
      refine pure_ (i := 3) (N := some 84) (v := ?_) (a' := ?_) #[true, true, true, true, false, false, false, false, false, false, false, false, false] rfl rfl (any_of HT_.out (by kernel_rfl)) (fun _ _ _ h => h) (Or.inl ⟨by rfl, ?_⟩) ?_ ?_
      rotate_left
      · intro w'
        go_simp
        with_reducible rfl
      rotate_left
      · simp only [Act.put, List.setIfInBounds_toArray, List.set_cons_zero, List.set_cons_succ, i64_w, i32_w]
        rfl
      refine pure_ (i := 4) (N := some 85) (v := ?_) (a' := ?_) #[true, true, true, true, true, false, false, false, false, false, false, false, false] rfl rfl (any_of HT_.out (by kernel_rfl)) (fun _ _ _ h => h) (Or.inl ⟨by rfl, ?_⟩) ?_ ?_
      rotate_left
      · intro w'
        go_simp
        with_reducible rfl
      rotate_left
      · simp only [Act.put, List.setIfInBounds_toArray, List.set_cons_zero, List.set_cons_succ, i64_w, i32_w]
        rfl
      refine pure_ (i := 5) (N := some 86) (v := ?_) (a' := ?_) #[true, true, true, true, true, true, false, false, false, false, false, false, false] rfl rfl (any_of HT_.out (by kernel_rfl)) (fun _ _ _ h => h) (Or.inl ⟨by rfl, ?_⟩) ?_ ?_
      rotate_left
      · intro w'
        go_simp
        with_reducible rfl
      rotate_left
      · simp only [Act.put, List.setIfInBounds_toArray, List.set_cons_zero, List.set_cons_succ, i64_w, i32_w]
        rfl
      refine pure_ (i := 6) (N := some 87) (v := ?_) (a' := ?_) #[true, true, true, true, true, true, true, false, false, false, false, false, false] rfl rfl (any_of HT_.out (by kernel_rfl)) (fun _ _ _ h => h) (Or.inl ⟨by rfl, ?_⟩) ?_ ?_
      rotate_left
      · intro w'
        go_simp
        with_reducible rfl
      rotate_left
      · simp only [Act.put, List.setIfInBounds_toArray, List.set_cons_zero, List.set_cons_succ, i64_w, i32_w]
        rfl
      refine pure_ (i := 7) (N := some 88) (v := ?_) (a' := ?_) #[true, true, true, true, true, true, true, true, false, false, false, false, false] rfl rfl (any_of HT_.out (by kernel_rfl)) (fun _ _ _ h => h) (Or.inl ⟨by rfl, ?_⟩) ?_ ?_
      rotate_left
      · intro w'
        go_simp
        with_reducible rfl
      rotate_left
      · simp only [Act.put, List.setIfInBounds_toArray, List.set_cons_zero, List.set_cons_succ, i64_w, i32_w]
        rfl
      refine take_ (i := 9) (N := some 90) (v := ?_) (a' := ?_) #[true, true, true, true, true, true, true, true, false, true, false, false, false] rfl rfl (take_ofW HT_.out HW_.out (by kernel_rfl)) (fun _ _ _ h => h) (Or.inl ⟨by rfl, ?_⟩) hHeld ?_ ?_
      rotate_left
      · rintro w' ⟨s0, s1, s2, s3, s4, s5, s6⟩
        go_simp
        with_reducible rfl
      rotate_left
      · simp only [Act.put, List.setIfInBounds_toArray, List.set_cons_zero, List.set_cons_succ, i64_w, i32_w]
        rfl
      refine join_ (σ := Value) 2 #[true, true, true, true, true, true, true, true, true, true, true, false, false] (fun s_ => [(89, .slice (some ⟨g, 0, none⟩) n n), (91, s_)]) (fun s_ w' => (w'.cell? ⟨gb, 0, none⟩ = some (.int .i64 x.f0) ∧ w'.cell? ⟨gb, 1, none⟩ = some (.int .i64 x.f1) ∧ w'.cell? ⟨gb, 2, none⟩ = some (.int .i64 st) ∧ w'.cell? ⟨gb, 3, none⟩ = some (.slice A3 x.f3.length c3) ∧ w'.cell? ⟨gb, 4, none⟩ = some (.slice A4 fs.length c4) ∧ w'.cell? ⟨gb, 5, none⟩ = some (.string x.f5) ∧ w'.cell? ⟨gb, 6, none⟩ = some (.bool false)) ∧ Kd.F k35 w' (fun k_ => w.heap.size ≤ k_ ∧ k_ ≠ gb) (some ⟨g, 0, none⟩) n (l.take n) ∧ (Kd.N k35 35 w' w.heap.size (fun k_ => w.heap.size ≤ k_ ∧ k_ ≠ gb) s_ [⟨x.f0, x.f1, st, x.f3, fs, x.f5, false⟩] ∧ ∃ q, (s_ : Value).ownBlock = some q) ∧ w'.heap[gb]? = some (.cells #[.int .i64 x.f0, .int .i64 x.f1, .int .i64 st, .slice A3 x.f3.length c3, .slice A4 fs.length c4, .string x.f5, .bool false] 35 (0, 0)) ∧ Below w.heap.size w w') ?_ ?_
      rotate_left
      · intro hCont
        refine two_ (i := 8) (j := 10) (Ni := some 89) (Nj := some 91) #[true, true, true, true, true, true, true, true, true, true, false, false, false] #[true, true, true, true, true, true, true, true, false, true, true, false, false] rfl rfl rfl rfl (two_of HT_.out (by kernel_rfl)) (by decide) (by decide) (fun K hK => ?_) (fun K hK => ?_)
        · skip
          refine append_none_step (by rfl) (.tmp 84) (.tmp 88) 22 35 i0 rfl Tryd.underlying22 hi0 _ _ n n _ (Nat.le_refl _) rfl rfl ?_
          refine hK.out _ _ (held7 BK.out) (fun hHeld => ?_)
          clear hK K
          refine norm_ (a' := ?_) ?_ ?_
          rotate_left
          · show Act.put _ (some 89) _ = _
            simp only [Act.put, List.setIfInBounds_toArray, List.set_cons_zero, List.set_cons_succ, i64_w, i32_w]
            rfl
          refine one_ (i := 10) (N := some 91) #[true, true, true, true, true, true, true, true, true, true, true, false, false] rfl rfl (one_of HT_.out (by kernel_rfl)) (by decide) (fun K hK => ?_)
          refine Kd.N_lit_step k35 (w0 := w) w.heap.size 35 (by rfl) (N' := 91) rfl (xs := ([⟨x.f0, x.f1, st, x.f3, fs, x.f5, false⟩] : List Jb)) (inner := [.int .i64 x.f0, .int .i64 x.f1, .int .i64 st, .slice A3 x.f3.length c3, .slice A4 fs.length c4, .string x.f5, .bool false]) (ok := (fun k_ => w.heap.size ≤ k_ ∧ k_ ≠ gb)) (okp := (fun k_ => ((w.heap.size ≤ k_ ∧ k_ ≠ gb) ∧ some k_ ≠ (Value.slice (some ⟨g, 0, none⟩) l.length cap).ownBlock) ∧ k_ < w31.heap.size)) ?hr ?hp (fun k_ hk => hk.1.1) ⟨below_size HB.out, by have := HGB.out; omega⟩ HB.out (below_size HB.out) (by simp) ?_
          (case hr => first | (go_simp; done) | (go_simp; rfl))
          (case hp => exact (Reps.c7 (show Kd.FK k35 _ _ (⟨x.f0, x.f1, st, x.f3, fs, x.f5, false⟩ : Jb) [.int .i64 x.f0, .int .i64 x.f1, .int .i64 st, .slice A3 x.f3.length c3, .slice A4 fs.length c4, .string x.f5, .bool false] from k35_mkF _ _ ⟨x.f0, x.f1, st, x.f3, fs, x.f5, false⟩ (c3 := c3) (c4 := c4) HL3.out HF3.out HL4.out HF4.out) (Reps.none _ _)))
          intro v91 w33 hN9 hb hg hat
          have BK2 := blk_grown BK.out hg (by intro h; cases h)
          have HFX1 := Kd.F_grown HFX.out hg (fun k hk h => by cases h)
          refine hK.out _ _ (held7 BK2) (fun hHeld2 => ?_)
          clear hK K
          refine norm_ (a' := ?_) ?_ ?_
          rotate_left
          · show Act.put _ (some 91) _ = _
            simp only [Act.put, List.setIfInBounds_toArray, List.set_cons_zero, List.set_cons_succ, i64_w, i32_w]
            rfl
          exact norm_ (by simp only [putAll, Act.put, List.setIfInBounds_toArray, List.set_cons_zero, List.set_cons_succ]) (hCont v91 _ ⟨hHeld2, HFX1, ⟨hN9, hat.imp (fun _ h => h.1)⟩, BK2, hb⟩)
        · skip
          refine Kd.N_lit_step k35 (w0 := w) w.heap.size 35 (by rfl) (N' := 91) rfl (xs := ([⟨x.f0, x.f1, st, x.f3, fs, x.f5, false⟩] : List Jb)) (inner := [.int .i64 x.f0, .int .i64 x.f1, .int .i64 st, .slice A3 x.f3.length c3, .slice A4 fs.length c4, .string x.f5, .bool false]) (ok := (fun k_ => w.heap.size ≤ k_ ∧ k_ ≠ gb)) (okp := (fun k_ => ((w.heap.size ≤ k_ ∧ k_ ≠ gb) ∧ some k_ ≠ (Value.slice (some ⟨g, 0, none⟩) l.length cap).ownBlock) ∧ k_ < w31.heap.size)) ?hr ?hp (fun k_ hk => hk.1.1) ⟨below_size HB.out, by have := HGB.out; omega⟩ HB.out (below_size HB.out) (by simp) ?_
          (case hr => first | (go_simp; done) | (go_simp; rfl))
          (case hp => exact (Reps.c7 (show Kd.FK k35 _ _ (⟨x.f0, x.f1, st, x.f3, fs, x.f5, false⟩ : Jb) [.int .i64 x.f0, .int .i64 x.f1, .int .i64 st, .slice A3 x.f3.length c3, .slice A4 fs.length c4, .string x.f5, .bool false] from k35_mkF _ _ ⟨x.f0, x.f1, st, x.f3, fs, x.f5, false⟩ (c3 := c3) (c4 := c4) HL3.out HF3.out HL4.out HF4.out) (Reps.none _ _)))
          intro v91 w33 hN9 hb hg hat
          have BK2 := blk_grown BK.out hg (by intro h; cases h)
          have HFX1 := Kd.F_grown HFX.out hg (fun k hk h => by cases h)
          have HN9 := Aside0.mk hN9
          have HAT := Aside0.mk (hat.imp (fun _ h => h.1))
          have HB2 := Aside0.mk hb
          have BK3 := Aside0.mk BK2
          have HFX2 := Aside0.mk HFX1
          clear hN9 hat hb hg BK2 HFX1
          refine hK.out _ _ (held7 BK3.out) (fun hHeld => ?_)
          clear hK K
          refine norm_ (a' := ?_) ?_ ?_
          rotate_left
          · show Act.put _ (some 91) _ = _
            simp only [Act.put, List.setIfInBounds_toArray, List.set_cons_zero, List.set_cons_succ, i64_w, i32_w]
            rfl
          refine one_ (i := 8) (N := some 89) #[true, true, true, true, true, true, true, true, true, true, true, false, false] rfl rfl (one_of HT_.out (by kernel_rfl)) (by decide) (fun K hK => ?_)
          refine append_none_step (by rfl) (.tmp 84) (.tmp 88) 22 35 i0 rfl Tryd.underlying22 hi0 _ _ n n _ (Nat.le_refl _) rfl rfl ?_
          refine hK.out _ _ (held7 BK3.out) (fun hHeld2 => ?_)
          clear hK K
          refine norm_ (a' := ?_) ?_ ?_
          rotate_left
          · show Act.put _ (some 89) _ = _
            simp only [Act.put, List.setIfInBounds_toArray, List.set_cons_zero, List.set_cons_succ, i64_w, i32_w]
            rfl
          exact norm_ (by simp only [putAll, Act.put, List.setIfInBounds_toArray, List.set_cons_zero, List.set_cons_succ]) (hCont v91 _ ⟨hHeld2, HFX2.out, ⟨HN9.out, HAT.out⟩, BK3.out, HB2.out⟩)
      rintro v91 w33 ⟨hHeld, h0_, ⟨h1_, hq_⟩, h3_, h4_⟩
      obtain ⟨A9, c9, e9⟩ := Kd.N_slice h1_
      subst e9
      obtain ⟨ad9, eA⟩ : ∃ ad, A9 = some ad := by cases A9 with | none => obtain ⟨q, hq⟩ := hq_; simp [Value.ownBlock] at hq | some a => exact ⟨a, rfl⟩
      subst eA
      have HN8 := Aside0.mk h0_
      have HN9 := Aside0.mk h1_
      have BK2 := Aside0.mk h3_
      have HB2 := Aside0.mk h4_
      clear h0_ h1_ h3_ h4_ hq_ HB
      refine norm_ (a' := ?_) ?_ ?_
      rotate_left
      · simp only [putAll, Act.put, List.setIfInBounds_toArray, List.set_cons_zero, List.set_cons_succ]
        rfl
      refine one_ (i := 11) (N := some 92) #[true, true, true, true, true, true, true, true, true, true, true, true, false] rfl rfl (one_of HT_.out (by kernel_rfl)) (by decide) (fun K hK => ?_)
      refine append_full_step k35 (w0 := w) w.heap.size (by rfl) (.tmp 89) (.tmp 91) 22 35 (.agg #[(.int .i64 0), (.int .i64 0), (.int .i64 0), (.slice none 0 0), (.slice none 0 0), (.string ⟨#[]⟩), (.bool false)]) 96 rfl Tryd.underlying22 info35 rfl (by decide) ⟨g, 0, none⟩ ad9 n 1 c9 (l.take n) [⟨x.f0, x.f1, st, x.f3, fs, x.f5, false⟩] (fun k_ => w.heap.size ≤ k_ ∧ k_ ≠ gb) rfl rfl HN8.out (Kd.N_F HN9.out) (by omega) HB2.out (below_size HB2.out) (by have := HSM.out; have := HLT.out; have : maxLen = 9223372036854775807 := rfl; omega) (by have := HSM.out; have := HLT.out; omega) ?_
      intro v92 w34 hN hb hg hfr
      have hNN : Kd.N k35 35 w34 w.heap.size (fun k => (w.heap.size ≤ k ∧ k ≠ gb) ∨ w33.heap.size ≤ k) v92 ((l.take n ++ l.drop (n + 1)) ++ [⟨x.f0, x.f1, st, x.f3, fs, x.f5, false⟩]) := by rw [List.drop_eq_nil_of_le (by have := HLT.out; omega), List.append_nil]; exact hN
      have BK3 := blk_grown BK2.out hg (by intro h; cases h)
      refine hK.out _ _ (held7 BK3) (fun hHeld2 => ?_)
      clear hK K
      refine norm_ (a' := ?_) ?_ ?_
      rotate_left
      · show Act.put _ (some 92) _ = _
        simp only [Act.put, List.setIfInBounds_toArray, List.set_cons_zero, List.set_cons_succ, i64_w, i32_w]
        rfl
      refine pure_ (i := 12) (N := some 9) (v := ?_) (a' := ?_) #[true, true, true, true, true, true, true, true, true, true, true, true, true] rfl rfl (any_of HT_.out (by kernel_rfl)) (fun _ _ _ h => h) (Or.inl ⟨by rfl, ?_⟩) ?_ ?_
      rotate_left
      · intro w'
        go_simp
        with_reducible rfl
      rotate_left
      · simp only [Act.put, List.setIfInBounds_toArray, List.set_cons_zero, List.set_cons_succ, i64_w, i32_w]
        rfl
      refine done_ (done_of HT_.out (by kernel_rfl)) ?_
      try go_wp2
      all_goals go_ret2
      all_goals exact ⟨_, rfl, by rw [HRR.out, if_pos ⟨HSX.out, HS2.out⟩, if_pos HSX.out, HFS.out, Int.toNat_natCast]; exact Kd.V_mono (Kd.N_V hNN) (fun k hk => by first | exact hk.1 | exact hk.elim (fun h => h.1) (fun h => Nat.le_trans (below_size HB2.out) h)), hb⟩
    have hlt : n + 1 < l.length := by have := HP.out; omega
    have f8 := eq_false (show ¬ cap = n + 1 by have := HNL.out; omega)
    have HLT := Aside0.mk hlt
    have hFY := HFY.out (by have := HNL.out; omega)
    have HFY2 := Aside0.mk hFY
    clear hlast hlt hFY HFY
    refine pure_ (i := 0) (N := some 81) (v := ?_) (a' := ?_) #[true, false, false, false, false, false, false, false, false, false, false, false, false] rfl rfl (any_of HT_.out (by kernel_rfl)) (fun _ _ _ h => h) (Or.inl ⟨by rfl, ?_⟩) ?_ ?_
    rotate_left
    · intro w'
      go_simp
      with_reducible rfl
    rotate_left
    · simp only [Act.put, List.setIfInBounds_toArray, List.set_cons_zero, List.set_cons_succ, i64_w, i32_w]
      rfl
    refine pure_ (i := 1) (N := some 82) (v := ?_) (a' := ?_) #[true, true, false, false, false, false, false, false, false, false, false, false, false] rfl rfl (any_of HT_.out (by kernel_rfl)) (fun _ _ _ h => h) (Or.inl ⟨by rfl, ?_⟩) ?_ ?_
    rotate_left
    · intro w'
      go_simp
      with_reducible rfl
    rotate_left
    · simp only [Act.put, List.setIfInBounds_toArray, List.set_cons_zero, List.set_cons_succ, i64_w, i32_w]
      rfl
    refine pure_ (i := 2) (N := some 83) (v := ?_) (a' := ?_) #[true, true, true, false, false, false, false, false, false, false, false, false, false] rfl rfl (any_of HT_.out (by kernel_rfl)) (fun _ _ _ h => h) (Or.inl ⟨by rfl, ?_⟩) ?_ ?_
    rotate_left
    · intro w'
      go_simp
      with_reducible rfl
    rotate_left
    · simp only [Act.put, List.setIfInBounds_toArray, List.set_cons_zero, List.set_cons_succ, i64_w, i32_w]
      rfl
    refine pure_ (i := 3) (N := some 84) (v := ?_) (a' := ?_) #[true, true, true, true, false, false, false, false, false, false, false, false, false] rfl rfl (any_of HT_.out (by kernel_rfl)) (fun _ _ _ h => h) (Or.inl ⟨by rfl, ?_⟩) ?_ ?_
    rotate_left
    · intro w'
      go_simp
      with_reducible rfl
    rotate_left
    · simp only [Act.put, List.setIfInBounds_toArray, List.set_cons_zero, List.set_cons_succ, i64_w, i32_w]
      rfl
    refine pure_ (i := 4) (N := some 85) (v := ?_) (a' := ?_) #[true, true, true, true, true, false, false, false, false, false, false, false, false] rfl rfl (any_of HT_.out (by kernel_rfl)) (fun _ _ _ h => h) (Or.inl ⟨by rfl, ?_⟩) ?_ ?_
    rotate_left
    · intro w'
      go_simp
      with_reducible rfl
    rotate_left
    · simp only [Act.put, List.setIfInBounds_toArray, List.set_cons_zero, List.set_cons_succ, i64_w, i32_w]
      rfl
    refine pure_ (i := 5) (N := some 86) (v := ?_) (a' := ?_) #[true, true, true, true, true, true, false, false, false, false, false, false, false] rfl rfl (any_of HT_.out (by kernel_rfl)) (fun _ _ _ h => h) (Or.inl ⟨by rfl, ?_⟩) ?_ ?_
    rotate_left
    · intro w'
      go_simp
      with_reducible rfl
    rotate_left
    · simp only [Act.put, List.setIfInBounds_toArray, List.set_cons_zero, List.set_cons_succ, i64_w, i32_w]
      rfl
    refine pure_ (i := 6) (N := some 87) (v := ?_) (a' := ?_) #[true, true, true, true, true, true, true, false, false, false, false, false, false] rfl rfl (any_of HT_.out (by kernel_rfl)) (fun _ _ _ h => h) (Or.inl ⟨by rfl, ?_⟩) ?_ ?_
    rotate_left
    · intro w'
      go_simp
      with_reducible rfl
    rotate_left
    · simp only [Act.put, List.setIfInBounds_toArray, List.set_cons_zero, List.set_cons_succ, i64_w, i32_w]
      rfl
    refine pure_ (i := 7) (N := some 88) (v := ?_) (a' := ?_) #[true, true, true, true, true, true, true, true, false, false, false, false, false] rfl rfl (any_of HT_.out (by kernel_rfl)) (fun _ _ _ h => h) (Or.inl ⟨by rfl, ?_⟩) ?_ ?_
    rotate_left
    · intro w'
      go_simp
      with_reducible rfl
    rotate_left
    · simp only [Act.put, List.setIfInBounds_toArray, List.set_cons_zero, List.set_cons_succ, i64_w, i32_w]
      rfl
    refine take_ (i := 9) (N := some 90) (v := ?_) (a' := ?_) #[true, true, true, true, true, true, true, true, false, true, false, false, false] rfl rfl (take_ofW HT_.out HW_.out (by kernel_rfl)) (fun _ _ _ h => h) (Or.inl ⟨by rfl, ?_⟩) hHeld ?_ ?_
    rotate_left
    · rintro w' ⟨s0, s1, s2, s3, s4, s5, s6⟩
      go_simp
      with_reducible rfl
    rotate_left
    · simp only [Act.put, List.setIfInBounds_toArray, List.set_cons_zero, List.set_cons_succ, i64_w, i32_w]
      rfl
    refine join_ (σ := Value × Value) 2 #[true, true, true, true, true, true, true, true, true, true, true, false, false] (fun s_ => [(89, s_.1), (91, s_.2)]) (fun s_ w' => (w'.cell? ⟨gb, 0, none⟩ = some (.int .i64 x.f0) ∧ w'.cell? ⟨gb, 1, none⟩ = some (.int .i64 x.f1) ∧ w'.cell? ⟨gb, 2, none⟩ = some (.int .i64 st) ∧ w'.cell? ⟨gb, 3, none⟩ = some (.slice A3 x.f3.length c3) ∧ w'.cell? ⟨gb, 4, none⟩ = some (.slice A4 fs.length c4) ∧ w'.cell? ⟨gb, 5, none⟩ = some (.string x.f5) ∧ w'.cell? ⟨gb, 6, none⟩ = some (.bool false)) ∧ Kd.N k35 35 w' w.heap.size (fun k_ => (w.heap.size ≤ k_ ∧ k_ ≠ gb) ∧ some k_ ≠ (s_.2 : Value).ownBlock) s_.1 (l.take n ++ l.drop (n + 1)) ∧ Kd.N k35 35 w' w.heap.size (fun k_ => (w.heap.size ≤ k_ ∧ k_ ≠ gb) ∧ some k_ ≠ (s_.1 : Value).ownBlock) s_.2 [⟨x.f0, x.f1, st, x.f3, fs, x.f5, false⟩] ∧ w'.heap[gb]? = some (.cells #[.int .i64 x.f0, .int .i64 x.f1, .int .i64 st, .slice A3 x.f3.length c3, .slice A4 fs.length c4, .string x.f5, .bool false] 35 (0, 0)) ∧ Below w.heap.size w w') ?_ ?_
    rotate_left
    · intro hCont
      refine two_ (i := 8) (j := 10) (Ni := some 89) (Nj := some 91) #[true, true, true, true, true, true, true, true, true, true, false, false, false] #[true, true, true, true, true, true, true, true, false, true, true, false, false] rfl rfl rfl rfl (two_of HT_.out (by kernel_rfl)) (by decide) (by decide) (fun K hK => ?_) (fun K hK => ?_)
      · skip
        refine append_full_step k35 (w0 := w) w.heap.size (by rfl) (.tmp 84) (.tmp 88) 22 35 (.agg #[(.int .i64 0), (.int .i64 0), (.int .i64 0), (.slice none 0 0), (.slice none 0 0), (.string ⟨#[]⟩), (.bool false)]) 96 rfl Tryd.underlying22 info35 rfl (by decide) ⟨g, 0, none⟩ ⟨g, (n + 1) * 7, none⟩ n (l.length - (n + 1)) (cap - (n + 1)) (l.take n) (l.drop (n + 1)) (fun k_ => w.heap.size ≤ k_ ∧ k_ ≠ gb) rfl rfl HFX.out HFY2.out (by have := HLT.out; omega) HB.out (below_size HB.out) (by have := HSM.out; have := HLT.out; have : maxLen = 9223372036854775807 := rfl; omega) (by have := HSM.out; have := HLT.out; omega) ?_
        intro v89 w32 hN hb hg hfr
        have hN2 : Kd.N k35 35 w32 w.heap.size (fun k_ => w.heap.size ≤ k_ ∧ k_ ≠ gb) v89 (l.take n ++ l.drop (n + 1)) := Kd.N_mono hN (fun k hk => hk.elim id (fun h => ⟨by have := HGB.out; omega, by have := HGB.out; omega⟩))
        have BK1 := Aside0.mk (blk_grown BK.out hg (by intro h; cases h))
        have HF31 := Aside0.mk (Kd.F_grown HF3.out hg (fun k hk h => by cases h))
        have HF41 := Aside0.mk (Kd.F_grown HF4.out hg (fun k hk h => by cases h))
        have HN := Aside0.mk hN2
        have HFR := Aside0.mk hfr
        have HB1 := Aside0.mk hb
        have HSZ := Aside0.mk (show w31.heap.size ≤ w32.heap.size from below_size ((Below.refl _ w31).grown hg (Nat.le_refl _) (by intro k hk; cases hk)))
        clear hN hN2 hfr hb hg
        refine hK.out _ _ (held7 BK1.out) (fun hHeld => ?_)
        clear hK K
        refine norm_ (a' := ?_) ?_ ?_
        rotate_left
        · show Act.put _ (some 89) _ = _
          simp only [Act.put, List.setIfInBounds_toArray, List.set_cons_zero, List.set_cons_succ, i64_w, i32_w]
          rfl
        refine one_ (i := 10) (N := some 91) #[true, true, true, true, true, true, true, true, true, true, true, false, false] rfl rfl (one_of HT_.out (by kernel_rfl)) (by decide) (fun K hK => ?_)
        refine Kd.N_lit_step k35 (w0 := w) w.heap.size 35 (by rfl) (N' := 91) rfl (xs := ([⟨x.f0, x.f1, st, x.f3, fs, x.f5, false⟩] : List Jb)) (inner := [.int .i64 x.f0, .int .i64 x.f1, .int .i64 st, .slice A3 x.f3.length c3, .slice A4 fs.length c4, .string x.f5, .bool false]) (ok := (fun k_ => (w.heap.size ≤ k_ ∧ k_ ≠ gb) ∧ some k_ ≠ (v89 : Value).ownBlock)) (okp := (fun k_ => ((w.heap.size ≤ k_ ∧ k_ ≠ gb) ∧ some k_ ≠ (Value.slice (some ⟨g, 0, none⟩) l.length cap).ownBlock) ∧ k_ < w31.heap.size)) ?hr ?hp (fun k_ hk => ⟨hk.1.1, fun he => by have := HFR.out k_ he.symm; have := hk.2; omega⟩) ⟨⟨below_size HB1.out, by have := HGB.out; have := HSZ.out; omega⟩, fun he => by have := Kd.N_lt HN.out _ he.symm; omega⟩ HB1.out (below_size HB1.out) (by simp) ?_
        (case hr => first | (go_simp; done) | (go_simp; rfl))
        (case hp => exact (Reps.c7 (show Kd.FK k35 _ _ (⟨x.f0, x.f1, st, x.f3, fs, x.f5, false⟩ : Jb) [.int .i64 x.f0, .int .i64 x.f1, .int .i64 st, .slice A3 x.f3.length c3, .slice A4 fs.length c4, .string x.f5, .bool false] from k35_mkF _ _ ⟨x.f0, x.f1, st, x.f3, fs, x.f5, false⟩ (c3 := c3) (c4 := c4) HL3.out HF31.out HL4.out HF41.out) (Reps.none _ _)))
        intro v91 w33 hN9 hb hg hat
        have hb' := (Below.refl w32.heap.size w32).grown hg (Nat.le_refl _) (by intro k hk; cases hk)
        have BK2 := blk_grown BK1.out hg (by intro h; cases h)
        refine hK.out _ _ (held7 BK2) (fun hHeld2 => ?_)
        clear hK K
        refine norm_ (a' := ?_) ?_ ?_
        rotate_left
        · show Act.put _ (some 91) _ = _
          simp only [Act.put, List.setIfInBounds_toArray, List.set_cons_zero, List.set_cons_succ, i64_w, i32_w]
          rfl
        exact norm_ (by simp only [putAll, Act.put, List.setIfInBounds_toArray, List.set_cons_zero, List.set_cons_succ]) (hCont (v89, v91) _ ⟨hHeld2, Kd.N_elder' HN.out (fun k hk => by obtain ⟨q, hq, hl⟩ := hat; rw [hq] at hk; injection hk with hk; omega) hb', hN9, BK2, hb⟩)
      · skip
        refine Kd.N_lit_step k35 (w0 := w) w.heap.size 35 (by rfl) (N' := 91) rfl (xs := ([⟨x.f0, x.f1, st, x.f3, fs, x.f5, false⟩] : List Jb)) (inner := [.int .i64 x.f0, .int .i64 x.f1, .int .i64 st, .slice A3 x.f3.length c3, .slice A4 fs.length c4, .string x.f5, .bool false]) (ok := (fun k_ => w.heap.size ≤ k_ ∧ k_ ≠ gb)) (okp := (fun k_ => ((w.heap.size ≤ k_ ∧ k_ ≠ gb) ∧ some k_ ≠ (Value.slice (some ⟨g, 0, none⟩) l.length cap).ownBlock) ∧ k_ < w31.heap.size)) ?hr ?hp (fun k_ hk => hk.1.1) ⟨below_size HB.out, by have := HGB.out; omega⟩ HB.out (below_size HB.out) (by simp) ?_
        (case hr => first | (go_simp; done) | (go_simp; rfl))
        (case hp => exact (Reps.c7 (show Kd.FK k35 _ _ (⟨x.f0, x.f1, st, x.f3, fs, x.f5, false⟩ : Jb) [.int .i64 x.f0, .int .i64 x.f1, .int .i64 st, .slice A3 x.f3.length c3, .slice A4 fs.length c4, .string x.f5, .bool false] from k35_mkF _ _ ⟨x.f0, x.f1, st, x.f3, fs, x.f5, false⟩ (c3 := c3) (c4 := c4) HL3.out HF3.out HL4.out HF4.out) (Reps.none _ _)))
        intro v91 w32 hN9 hb hg hat
        have BK1 := Aside0.mk (blk_grown BK.out hg (by intro h; cases h))
        have HFX1 := Aside0.mk (Kd.F_grown (Kd.F_bound HFX.out) hg (fun k hk h => by cases h))
        have HFY1 := Aside0.mk (Kd.F_grown (Kd.F_bound HFY2.out) hg (fun k hk h => by cases h))
        have HN := Aside0.mk hN9
        have HB1 := Aside0.mk hb
        have HSZ := Aside0.mk (show w31.heap.size ≤ w32.heap.size from below_size ((Below.refl _ w31).grown hg (Nat.le_refl _) (by intro k hk; cases hk)))
        have HAT := Aside0.mk hat
        clear hN9 hb hg hat
        refine hK.out _ _ (held7 BK1.out) (fun hHeld => ?_)
        clear hK K
        refine norm_ (a' := ?_) ?_ ?_
        rotate_left
        · show Act.put _ (some 91) _ = _
          simp only [Act.put, List.setIfInBounds_toArray, List.set_cons_zero, List.set_cons_succ, i64_w, i32_w]
          rfl
        refine one_ (i := 8) (N := some 89) #[true, true, true, true, true, true, true, true, true, true, true, false, false] rfl rfl (one_of HT_.out (by kernel_rfl)) (by decide) (fun K hK => ?_)
        refine append_full_step k35 (w0 := w) w.heap.size (by rfl) (.tmp 84) (.tmp 88) 22 35 (.agg #[(.int .i64 0), (.int .i64 0), (.int .i64 0), (.slice none 0 0), (.slice none 0 0), (.string ⟨#[]⟩), (.bool false)]) 96 rfl Tryd.underlying22 info35 rfl (by decide) ⟨g, 0, none⟩ ⟨g, (n + 1) * 7, none⟩ n (l.length - (n + 1)) (cap - (n + 1)) (l.take n) (l.drop (n + 1)) (fun k_ => (w.heap.size ≤ k_ ∧ k_ ≠ gb) ∧ k_ < w31.heap.size) rfl rfl HFX1.out HFY1.out (by have := HLT.out; omega) HB1.out (below_size HB1.out) (by have := HSM.out; have := HLT.out; have : maxLen = 9223372036854775807 := rfl; omega) (by have := HSM.out; have := HLT.out; omega) ?_
        intro v89 w33 hN hb hg hfr
        have hN2 : Kd.N k35 35 w33 w.heap.size (fun k_ => (w.heap.size ≤ k_ ∧ k_ ≠ gb) ∧ some k_ ≠ (v91 : Value).ownBlock) v89 (l.take n ++ l.drop (n + 1)) := Kd.N_mono hN (fun k hk => by obtain ⟨q, hq, hl⟩ := HAT.out; have hq2 := Kd.N_lt HN.out q hq; exact hk.elim (fun hk => ⟨hk.1, fun he => by rw [hq] at he; injection he with he; have := hk.2; omega⟩) (fun hk => ⟨⟨by have := HGB.out; have := HSZ.out; omega, by have := HGB.out; have := HSZ.out; omega⟩, fun he => by rw [hq] at he; injection he with he; omega⟩))
        have BK2 := blk_grown BK1.out hg (by intro h; cases h)
        have h9 := Kd.N_lt HN.out
        refine hK.out _ _ (held7 BK2) (fun hHeld2 => ?_)
        clear hK K
        refine norm_ (a' := ?_) ?_ ?_
        rotate_left
        · show Act.put _ (some 89) _ = _
          simp only [Act.put, List.setIfInBounds_toArray, List.set_cons_zero, List.set_cons_succ, i64_w, i32_w]
          rfl
        exact norm_ (by simp only [putAll, Act.put, List.setIfInBounds_toArray, List.set_cons_zero, List.set_cons_succ]) (hCont (v89, v91) _ ⟨hHeld2, hN2, Kd.N_elder' HN.out hfr ((Below.refl w32.heap.size w32).grown hg (Nat.le_refl _) (by intro k hk; cases hk)), BK2, hb⟩)
    rintro ⟨v89, v91⟩ w33 ⟨hHeld, h0_, h1_, h3_, h4_⟩
    obtain ⟨A9, c9, e9⟩ := Kd.N_slice h1_
    change v91 = _ at e9
    subst e9
    have HN8 := Aside0.mk h0_
    have HN9 := Aside0.mk h1_
    have BK2 := Aside0.mk h3_
    have HB2 := Aside0.mk h4_
    clear h0_ h1_ h3_ h4_ HB
    refine norm_ (a' := ?_) ?_ ?_
    rotate_left
    · simp only [putAll, Act.put, List.setIfInBounds_toArray, List.set_cons_zero, List.set_cons_succ]
      rfl
    refine one_ (i := 11) (N := some 92) #[true, true, true, true, true, true, true, true, true, true, true, true, false] rfl rfl (one_of HT_.out (by kernel_rfl)) (by decide) (fun K hK => ?_)
    refine Kd.N_append_rows_step k35 (w0 := w) w.heap.size (by rfl) (.tmp 89) (.tmp 91) 22 35 (.agg #[(.int .i64 0), (.int .i64 0), (.int .i64 0), (.slice none 0 0), (.slice none 0 0), (.string ⟨#[]⟩), (.bool false)]) 96 rfl Tryd.underlying22 info35 rfl (by decide) (by omega) v89 (l.take n ++ l.drop (n + 1)) [⟨x.f0, x.f1, st, x.f3, fs, x.f5, false⟩] _ _ _ (fun k_ => w.heap.size ≤ k_ ∧ k_ ≠ gb) (fun k_ => (w.heap.size ≤ k_ ∧ k_ ≠ gb) ∧ some k_ ≠ (v89 : Value).ownBlock) rfl rfl ?aO ?aR (fun _ hk => hk) ?aF ?aB ?aS ?aL ?_
    (case aR => exact Kd.N_F HN9.out)
    (case aB => exact HB2.out)
    (case aF => exact (fun k_ hk => ⟨Nat.le_trans (below_size HB2.out) hk, Kd.freshB (g := gb) (o := .cells #[.int .i64 x.f0, .int .i64 x.f1, .int .i64 st, .slice A3 x.f3.length c3, .slice A4 fs.length c4, .string x.f5, .bool false] 35 (0, 0)) BK2.out k_ hk⟩))
    (case aO => exact Kd.N_mono HN8.out (fun _ hk => hk.1))
    (case aS => exact below_size HB2.out)
    (case aL => have := HSM.out; have := HLT.out; rw [List.length_append, List.length_take, List.length_drop]; show (min n l.length + (l.length - (n + 1)) + 1) * 96 ≤ _; omega)
    intro v92 w34 ho hb hg hat
    have BK3 := blk_grown BK2.out hg (Kd.N_away HN8.out (fun _ hk => hk.1.2))
    refine hK.out _ _ (held7 BK3) (fun hHeld2 => ?_)
    clear hK K
    refine norm_ (a' := ?_) ?_ ?_
    rotate_left
    · show Act.put _ (some 92) _ = _
      simp only [Act.put, List.setIfInBounds_toArray, List.set_cons_zero, List.set_cons_succ, i64_w, i32_w]
      rfl
    refine pure_ (i := 12) (N := some 9) (v := ?_) (a' := ?_) #[true, true, true, true, true, true, true, true, true, true, true, true, true] rfl rfl (any_of HT_.out (by kernel_rfl)) (fun _ _ _ h => h) (Or.inl ⟨by rfl, ?_⟩) ?_ ?_
    rotate_left
    · intro w'
      go_simp
      with_reducible rfl
    rotate_left
    · simp only [Act.put, List.setIfInBounds_toArray, List.set_cons_zero, List.set_cons_succ, i64_w, i32_w]
      rfl
    refine done_ (done_of HT_.out (by kernel_rfl)) ?_
    try go_wp2
    all_goals go_ret2
    all_goals exact ⟨_, rfl, by rw [HRR.out, if_pos ⟨HSX.out, HS2.out⟩, if_pos HSX.out, HFS.out, Int.toNat_natCast]; exact Kd.V_mono (Kd.N_V ho) (fun k hk => by first | exact hk.1 | exact hk.elim (fun h => h.1) (fun h => Nat.le_trans (below_size HB2.out) h)), hb⟩
end Go.Proofs.YthafbimhmfjcoaaDoor.PV
