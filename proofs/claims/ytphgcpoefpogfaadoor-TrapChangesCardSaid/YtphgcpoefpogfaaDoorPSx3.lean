-- Written by a program of this session's (wip/mkprint.py) out of the translation; the texts of functions that the program does not take are mine.
import Derived.Test.YtphgcpoefpogfaaDoorPSx0
import Derived.Test.YtphgcpoefpogfaaDoorPSx2
namespace Go.Proofs.YtphgcpoefpogfaaDoor.PS
open Go.RowKit Go.Proofs.YtphgcpoefpogfaaDoorW.PrintWords Go.Proofs.YtphgcpoefpogfaaDoorW.PrintLast Go.Proofs.YtphgcpoefpogfaaDoorW.PrintMore
attribute [local go_sem] max2_int min2_int max_two min_two max_three min_three max_four min_four   -- for this text's walks alone
set_option linter.unusedVariables false
set_option linter.unusedSimpArgs false

/-! ### trap_Next: function 14 -/
def trap_Next.m (l : List S30) : Int → Option ByteArray := l.foldl (fun m t => if t.f0 = 0 then m else if t.f1.toList = [] then m else Nx.upd m t.f0 t.f1) (fun _ => none)
def trap_Next.least (m : Int → Option ByteArray) (l : List Int) : Int := l.foldl (fun a n => if (m n).isSome ∧ (a = 0 ∨ n < a) then n else a) 0
def trap_Next.rest (m : Int → Option ByteArray) (b : Int) (l : List Int) : List Int := l.filter (fun n => (m n).isSome && n != b)
def trap_Next.f (l0 : List S30) (l1 : List Int) : Option (Int × ByteArray × List Int × Bool) :=
  if (l0.length ≤ 1000 ∧ l1.length ≤ 1000) ∧ (l0.all fun t => (Lit.int .i64 t.f0).wf && decide (t.f1.size ≤ maxLen)) = true ∧ (l1.all fun n => (Lit.int .i64 n).wf) = true then
    if trap_Next.least (trap_Next.m l0) l1 = 0 then some (0, ⟨#[]⟩, [], false) else (trap_Next.m l0 (trap_Next.least (trap_Next.m l0) l1)).bind fun s => some (trap_Next.least (trap_Next.m l0) l1, s, trap_Next.rest (trap_Next.m l0) (trap_Next.least (trap_Next.m l0) l1) l1, true)
  else none
theorem trap_Next.m_snoc (l : List S30) (i : Nat) (h : i < l.length) : trap_Next.m (l.take (i + 1)) = if (rd_T30 l i).f0 = 0 then trap_Next.m (l.take i) else if (rd_T30 l i).f1.toList = [] then trap_Next.m (l.take i) else Nx.upd (trap_Next.m (l.take i)) (rd_T30 l i).f0 (rd_T30 l i).f1 := by
  have : rd_T30 l i = l[i] := by simp [rd_T30, h]
  rw [this]
  unfold trap_Next.m
  rw [List.take_succ_eq_append_getElem h, List.foldl_append]
  rfl
theorem trap_Next.at_ok {l : List S30} (h : (l.all fun t => (Lit.int .i64 t.f0).wf && decide (t.f1.size ≤ maxLen)) = true) (x : Int) (h0 : 0 ≤ x) (h1 : x < l.length) : (rd_T30 l x).f1.size ≤ maxLen ∧ (Lit.int .i64 (rd_T30 l x).f0).wf = true := by
  have : rd_T30 l x = l[x.toNat]'(by omega) := by simp [rd_T30, show x.toNat < l.length by omega]
  rw [this]
  have := List.all_eq_true.1 h _ (List.getElem_mem (show x.toNat < l.length by omega))
  simp only [Bool.and_eq_true, decide_eq_true_eq] at this
  exact ⟨this.2, this.1⟩
theorem trap_Next.at_ok1 {l : List Int} (h : (l.all fun n => (Lit.int .i64 n).wf) = true) (x : Int) (h0 : 0 ≤ x) (h1 : x < l.length) : (Lit.int .i64 (rd l x)).wf = true := by
  have : rd l x = l[x.toNat]'(by omega) := by simp [rd, show x.toNat < l.length by omega]
  rw [this]
  exact List.all_eq_true.1 h _ (List.getElem_mem (show x.toNat < l.length by omega))
theorem trap_Next.least_wf {m : Int → Option ByteArray} {l : List Int} (h : (l.all fun n => (Lit.int .i64 n).wf) = true) {a : Int} (ha : trap_Next.least m l = a) : (Lit.int .i64 a).wf = true := by
  subst ha
  unfold trap_Next.least
  have : ∀ (l : List Int) (b : Int), (l.all fun n => (Lit.int .i64 n).wf) = true → (Lit.int .i64 b).wf = true → (Lit.int .i64 (l.foldl (fun a n => if (m n).isSome ∧ (a = 0 ∨ n < a) then n else a) b)).wf = true := by
    intro l
    induction l with
    | nil => intro b _ hb; exact hb
    | cons y l ih =>
      intro b hl hb
      rw [List.all_cons, Bool.and_eq_true] at hl
      rw [List.foldl_cons]
      apply ih _ hl.2
      split
      · exact hl.1
      · exact hb
  exact this l 0 h (by decide)
theorem trap_Next.least_snoc (m : Int → Option ByteArray) (l : List Int) (i : Nat) (h : i < l.length) : trap_Next.least m (l.take (i + 1)) = if (m (rd l i)).isSome ∧ (trap_Next.least m (l.take i) = 0 ∨ rd l i < trap_Next.least m (l.take i)) then rd l i else trap_Next.least m (l.take i) := by
  have : rd l i = l[i] := by simp [rd, h]
  rw [this]
  unfold trap_Next.least
  rw [List.take_succ_eq_append_getElem h, List.foldl_append]
  rfl
theorem trap_Next.rest_snoc (m : Int → Option ByteArray) (b : Int) (l : List Int) (i : Nat) (h : i < l.length) : trap_Next.rest m b (l.take (i + 1)) = if (m (rd l i)).isSome = true ∧ rd l i ≠ b then trap_Next.rest m b (l.take i) ++ [rd l i] else trap_Next.rest m b (l.take i) := by
  have : rd l i = l[i] := by simp [rd, h]
  rw [this]
  unfold trap_Next.rest
  rw [List.take_succ_eq_append_getElem h, List.filter_append]
  by_cases h1 : (m l[i]).isSome = true <;> by_cases h2 : l[i] = b <;> simp [h1, h2]
set_option maxHeartbeats 8000000 in
set_option maxRecDepth 100000 in
theorem trap_Next.calls (A0 : Option Addr) (c0 : Nat) (l0 : List (S30)) (A1 : Option Addr) (c1 : Nat) (l1 : List Int) (r1 : Int) (r2 : ByteArray) (r3 : List Int) (r4 : Bool) (w : World) (hr0 : Kd.C k30 w A0 l0.length l0) (hc0 : l0.length ≤ c0) (hr1 : Kd.C (Kd.int .i64) w A1 l1.length l1) (hc1 : l1.length ≤ c1) (h : trap_Next.f l0 l1 = some (r1, r2, r3, r4)) :
    Calls Tryd.prog 14 #[.slice A0 l0.length c0, .slice A1 l1.length c1] w fun e w' => ∃ v2_ : Value, e = .returned (.tuple #[.agg #[.int .i64 r1, .string r2], v2_, .bool r4]) ∧ Kd.R (Kd.int .i64) 3 w' w.heap.size (fun _ => True) v2_ r3 ∧ Below w.heap.size w w' := by
  have hu30 := Tryd.underlying30
  unfold trap_Next.f at h
  split at h
  case isFalse => cases h
  rename_i hc
  have HC := Aside0.mk hc
  have H := Aside0.mk h
  have HR0 := Aside0.mk hr0
  have HR1 := Aside0.mk hr1
  obtain ⟨⟨hn0, hn1⟩, -⟩ := hc
  clear h hr0 hr1
  have hmm : ∀ (t : TypeId) (w : World), (Instr.makeMap t none).run Tryd.prog w = .ok (.map (some w.heap.size)) (w.alloc (.map #[] 0)) := fun _ _ => rfl
  go_enter Tryd.func14, Tryd.ntmps14
  go_wp2
  go_loopw [23] (fun v wr => ∃ x : Int, v = .int .i64 x ∧ 0 ≤ x ∧ x ≤ l0.length ∧ Aside0 (Nx.St w wr x.toNat (trap_Next.m (l0.take x.toNat)) #[.int .i64 0, .string ⟨#[]⟩])) (fun v _ => l0.length - (intOf v).toNat)
  case atStart => exact ⟨0, rfl, by omega, by omega, ⟨Nx.St.start w _⟩⟩
  case round =>
    obtain ⟨x, rfl, hx0, hx1, S⟩ := hrel
    by_cases hlt : x < l0.length
    · have hwr : wrap64 (x + 1) = x + 1 := by unfold wrap64; omega
      have SN := trap_Next.m_snoc l0 x.toNat (by omega)
      rw [show ((x.toNat : Nat) : Int) = x by omega] at SN
      have SN' := Aside0.mk SN
      have hT : (rd_T30 l0 x).f1.size ≤ maxLen ∧ (Lit.int .i64 (rd_T30 l0 x).f0).wf = true := trap_Next.at_ok HC.out.2.1 x hx0 hlt
      have HT := Aside0.mk hT
      clear SN hT
      obtain ⟨ad, e, hc_0, hc_1⟩ := at_T30 HR0.out x hx0 hlt
      cases e
      replace hc_0 := (S.out.2.2.1.cell (World.block_lt_of_cell? w _ hc_0)).trans hc_0
      replace hc_1 := (S.out.2.2.1.cell (World.block_lt_of_cell? w _ hc_1)).trans hc_1
      have c2b0 : decide (x < (l0.length : Int)) = true := decide_eq_true hlt
      have p0 := eq_true hx0
      have q0 := eq_true hlt
      have R : ∀ W m, Nx.St w W x.toNat m #[.int .i64 0, .string ⟨#[]⟩] → trap_Next.m (l0.take (x.toNat + 1)) = m → Nx.St w W (x + 1).toNat (trap_Next.m (l0.take (x + 1).toNat)) #[.int .i64 0, .string ⟨#[]⟩] := fun W m hS hm => by
        rw [show (x + 1).toNat = x.toNat + 1 by omega, hm]
        exact hS.mono (by omega)
      have R' := Aside0.mk R
      have R1 : ∀ W m, Nx.St w W (x.toNat + 1) m #[.int .i64 0, .string ⟨#[]⟩] → trap_Next.m (l0.take (x.toNat + 1)) = m → Nx.St w W (x + 1).toNat (trap_Next.m (l0.take (x + 1).toNat)) #[.int .i64 0, .string ⟨#[]⟩] := fun W m hS hm => by
        rw [show (x + 1).toNat = x.toNat + 1 by omega, hm]
        exact hS
      have R1' := Aside0.mk R1
      have M' := Aside0.mk hwr
      clear R R1 hwr
      by_cases c5 : (rd_T30 l0 x).f0 = 0
      · have c5b0 : (((rd_T30 l0 x).f0) == 0) = true := beq_iff_eq.mpr c5
        have c5b1 : (((rd_T30 l0 x).f0) != 0) = false := bne_eq_false_iff_eq.mpr c5
        replace SN' := Aside0.mk (SN'.out.trans (if_pos c5))
        clear c5
        go_wp2_with (first | ((with_reducible refine gate_dst (N := 9) rfl ?_); refine box_event ?hg (N := 9) ?hd (cs := #[.int .i64 0, .string (⟨#[]⟩ : ByteArray)]) (t := 30) ?hr ?_; (case hd => rfl); (case hg => rfl); (case hr => first | (go_simp; done) | (go_simp; rfl)); intro gb hg w1 hbox hb; have n0_ := Aside0.mk (S.out.below hb); have n1_ := Aside0.mk hbox; have n2_ := Aside0.mk (by rw [hg]; exact S.out.2.2.2 : w.heap.size + 2 ≤ gb); clear S; have S := n0_; have BK := n1_; have GE := n2_; clear n0_ n1_ n2_; clear hb hbox hg; have hcz_0 : w1.cell? ⟨gb, 0, none⟩ = some (.int .i64 0) := (blk_cell BK.out 0).trans rfl; have hcz_1 : w1.cell? ⟨gb, 1, none⟩ = some (.string (⟨#[]⟩ : ByteArray)) := (blk_cell BK.out 1).trans rfl; have hfz_0 := blk_frozen BK.out 0; have hfz_1 := blk_frozen BK.out 1))
        go_roundw
        case rel => exact ⟨x + 1, by first | rfl | rw [M'.out], by omega, by omega, ⟨R'.out _ _ ((S.out.set GE.out _).set GE.out _) SN'.out⟩⟩
        case measure => first | (simp [intOf]; omega) | (rw [M'.out]; simp [intOf]; omega)
      · have c5b0 : (((rd_T30 l0 x).f0) == 0) = false := beq_eq_false_iff_ne.mpr c5
        have c5b1 : (((rd_T30 l0 x).f0) != 0) = true := bne_iff_ne.mpr c5
        by_cases c8 : ((rd_T30 l0 x).f1).toList = ([] : List UInt8)
        · have c8b0 : (((rd_T30 l0 x).f1).toList == ([] : List UInt8)) = true := beq_iff_eq.mpr c8
          have c8b1 : (((rd_T30 l0 x).f1).toList != ([] : List UInt8)) = false := bne_eq_false_iff_eq.mpr c8
          replace SN' := Aside0.mk ((SN'.out.trans (if_neg c5)).trans (if_pos c8))
          clear c5 c8
          go_wp2_with (first | ((with_reducible refine gate_dst (N := 9) rfl ?_); refine box_event ?hg (N := 9) ?hd (cs := #[.int .i64 0, .string (⟨#[]⟩ : ByteArray)]) (t := 30) ?hr ?_; (case hd => rfl); (case hg => rfl); (case hr => first | (go_simp; done) | (go_simp; rfl)); intro gb hg w1 hbox hb; have n0_ := Aside0.mk (S.out.below hb); have n1_ := Aside0.mk hbox; have n2_ := Aside0.mk (by rw [hg]; exact S.out.2.2.2 : w.heap.size + 2 ≤ gb); clear S; have S := n0_; have BK := n1_; have GE := n2_; clear n0_ n1_ n2_; clear hb hbox hg; have hcz_0 : w1.cell? ⟨gb, 0, none⟩ = some (.int .i64 0) := (blk_cell BK.out 0).trans rfl; have hcz_1 : w1.cell? ⟨gb, 1, none⟩ = some (.string (⟨#[]⟩ : ByteArray)) := (blk_cell BK.out 1).trans rfl; have hfz_0 := blk_frozen BK.out 0; have hfz_1 := blk_frozen BK.out 1))
          go_roundw
          case rel => exact ⟨x + 1, by first | rfl | rw [M'.out], by omega, by omega, ⟨R'.out _ _ ((S.out.set GE.out _).set GE.out _) SN'.out⟩⟩
          case measure => first | (simp [intOf]; omega) | (rw [M'.out]; simp [intOf]; omega)
        · have c8b0 : (((rd_T30 l0 x).f1).toList == ([] : List UInt8)) = false := beq_eq_false_iff_ne.mpr c8
          have c8b1 : (((rd_T30 l0 x).f1).toList != ([] : List UInt8)) = true := bne_iff_ne.mpr c8
          replace SN' := Aside0.mk ((SN'.out.trans (if_neg c5)).trans (if_neg c8))
          clear c5 c8
          go_wp2_with (first | ((with_reducible refine gate_dst (N := 9) rfl ?_); refine box_event ?hg (N := 9) ?hd (cs := #[.int .i64 0, .string (⟨#[]⟩ : ByteArray)]) (t := 30) ?hr ?_; (case hd => rfl); (case hg => rfl); (case hr => first | (go_simp; done) | (go_simp; rfl)); intro gb hg w1 hbox hb; have n0_ := Aside0.mk (S.out.below hb); have n1_ := Aside0.mk hbox; have n2_ := Aside0.mk (by rw [hg]; exact S.out.2.2.2 : w.heap.size + 2 ≤ gb); clear S; have S := n0_; have BK := n1_; have GE := n2_; clear n0_ n1_ n2_; clear hb hbox hg; have hcz_0 : w1.cell? ⟨gb, 0, none⟩ = some (.int .i64 0) := (blk_cell BK.out 0).trans rfl; have hcz_1 : w1.cell? ⟨gb, 1, none⟩ = some (.string (⟨#[]⟩ : ByteArray)) := (blk_cell BK.out 1).trans rfl; have hfz_0 := blk_frozen BK.out 0; have hfz_1 := blk_frozen BK.out 1) | (at_mapUpdate; refine Nx.put_step ((S.out.set GE.out _).set GE.out _) (by omega) _ _ _ _ _ rfl rfl rfl rfl rfl HT.out.2 HT.out.1 ?_; intro w2 S2; have n0_ := Aside0.mk S2; clear S; have S := n0_; clear n0_ S2))
          go_roundw
          case rel => exact ⟨x + 1, by first | rfl | rw [M'.out], by omega, by omega, ⟨R1'.out _ _ S.out SN'.out⟩⟩
          case measure => first | (simp [intOf]; omega) | (rw [M'.out]; simp [intOf]; omega)
    · have hx : x.toNat = l0.length := by omega
      have c2b0 : decide (x < (l0.length : Int)) = false := decide_eq_false hlt
      rw [hx, List.take_length] at S
      clear hx hx0 hx1 hlt
      have S0 := S
      clear S
      go_wp2
      go_loopw [43, 10] (fun v v2 wr => ∃ x : Int, v = .int .i64 x ∧ 0 ≤ x ∧ x ≤ l1.length ∧ v2 = .int .i64 (trap_Next.least (trap_Next.m l0) (l1.take x.toNat)) ∧ Aside0 (Nx.St w wr l0.length (trap_Next.m l0) #[.int .i64 0, .string ⟨#[]⟩])) (fun v _ _ => l1.length - (intOf v).toNat)
      case atStart => exact ⟨0, rfl, by omega, by omega, rfl, ⟨S0.out⟩⟩
      case round =>
        obtain ⟨x, rfl, hx0, hx1, rfl, S⟩ := hrel
        by_cases hlt : x < l1.length
        · have hwr : wrap64 (x + 1) = x + 1 := by unfold wrap64; omega
          have LN0 := trap_Next.least_snoc (trap_Next.m l0) l1 x.toNat (by omega)
          rw [show ((x.toNat : Nat) : Int) = x by omega] at LN0
          have HI := Aside0.mk (trap_Next.at_ok1 HC.out.2.2 x hx0 hlt)
          obtain ⟨ad, e, hc_0⟩ := Kd.at_int HR1.out x hx0 hlt
          cases e
          replace hc_0 := (S.out.2.2.1.cell (World.block_lt_of_cell? w _ hc_0)).trans hc_0
          have c2b1 : decide (x < (l1.length : Int)) = true := decide_eq_true hlt
          have p0 := eq_true hx0
          have q0 := eq_true hlt
          have R' := Aside0.mk (fun (m : Int) (hm : trap_Next.least (trap_Next.m l0) (l1.take (x.toNat + 1)) = m) => (by rw [show (x + 1).toNat = x.toNat + 1 by omega, hm] : (Value.int .i64 m) = .int .i64 (trap_Next.least (trap_Next.m l0) (l1.take (x + 1).toNat))))
          have M' := Aside0.mk hwr
          clear hwr
          obtain ⟨a, ha⟩ : ∃ a, trap_Next.least (trap_Next.m l0) (l1.take x.toNat) = a := ⟨_, rfl⟩
          rw [ha] at LN0 ⊢
          clear ha
          by_cases d1 : (trap_Next.m l0 (rd l1 x)).isSome = true
          · by_cases d2 : a = 0
            · have LN := Aside0.mk (LN0.trans (if_pos ⟨d1, .inl d2⟩))
              clear LN0
              have d2b : (a == 0) = true := beq_iff_eq.mpr d2
              go_wp2_with (first | (at_lookup; refine Nx.look_step S.out _ _ (rd l1 x) rfl rfl rfl rfl HI.out ?_; intro sv))
              go_roundw
              case rel => exact ⟨x + 1, by first | rfl | rw [M'.out], by omega, by omega, R'.out _ LN.out, S⟩
              case measure => first | (simp [intOf]; omega) | (rw [M'.out]; simp [intOf]; omega)
            · have d2b : (a == 0) = false := beq_eq_false_iff_ne.mpr d2
              by_cases d3 : rd l1 x < a
              · have LN := Aside0.mk (LN0.trans (if_pos ⟨d1, .inr d3⟩))
                clear LN0
                have d3b : decide (rd l1 x < a) = true := decide_eq_true d3
                go_wp2_with (first | (at_lookup; refine Nx.look_step S.out _ _ (rd l1 x) rfl rfl rfl rfl HI.out ?_; intro sv))
                go_roundw
                case rel => exact ⟨x + 1, by first | rfl | rw [M'.out], by omega, by omega, R'.out _ LN.out, S⟩
                case measure => first | (simp [intOf]; omega) | (rw [M'.out]; simp [intOf]; omega)
              · have LN := Aside0.mk (LN0.trans (if_neg (by rintro ⟨-, h | h⟩; exact d2 h; exact d3 h)))
                clear LN0
                have d3b : decide (rd l1 x < a) = false := decide_eq_false d3
                go_wp2_with (first | (at_lookup; refine Nx.look_step S.out _ _ (rd l1 x) rfl rfl rfl rfl HI.out ?_; intro sv))
                go_roundw
                case rel => exact ⟨x + 1, by first | rfl | rw [M'.out], by omega, by omega, R'.out _ LN.out, S⟩
                case measure => first | (simp [intOf]; omega) | (rw [M'.out]; simp [intOf]; omega)
          · have LN := Aside0.mk (LN0.trans (if_neg (fun h => d1 h.1)))
            clear LN0
            have d1b : (trap_Next.m l0 (rd l1 x)).isSome = false := by simpa using d1
            clear d1
            go_wp2_with (first | (at_lookup; refine Nx.look_step S.out _ _ (rd l1 x) rfl rfl rfl rfl HI.out ?_; intro sv))
            go_roundw
            case rel => exact ⟨x + 1, by first | rfl | rw [M'.out], by omega, by omega, R'.out _ LN.out, S⟩
            case measure => first | (simp [intOf]; omega) | (rw [M'.out]; simp [intOf]; omega)
        · have hx : x.toNat = l1.length := by omega
          have c2b1 : decide (x < (l1.length : Int)) = false := decide_eq_false hlt
          rw [hx, List.take_length]
          clear hx hx0 hx1 hlt
          have S1 := S
          have H1 := H
          clear S H
          obtain ⟨a, ha⟩ : ∃ a, trap_Next.least (trap_Next.m l0) l1 = a := ⟨_, rfl⟩
          rw [ha] at H1 ⊢
          have hz_0 : wr.cell? ⟨w.heap.size, 0, none⟩ = some (.int .i64 0) := (blk_cell S1.out.1 0).trans rfl
          have hz_1 : wr.cell? ⟨w.heap.size, 1, none⟩ = some (.string (⟨#[]⟩ : ByteArray)) := (blk_cell S1.out.1 1).trans rfl
          have hf_0 := blk_frozen S1.out.1 0
          have hf_1 := blk_frozen S1.out.1 1
          by_cases d2 : a = 0
          · have d2b : (a == 0) = true := beq_iff_eq.mpr d2
            have H2 := Aside0.mk (Option.some.inj ((if_pos d2).symm.trans H1.out))
            clear H1 ha d2
            go_wp2
            have HF := blk_put (blk_put S1.out.1 0 (.int .i64 0) rfl) 1 (.string (⟨#[]⟩ : ByteArray)) rfl
            (try simp only [Exit.inBlock, Exit.then]); refine bodyPost_ret (Nx.res3 rfl _ _ _ w.heap.size _ rfl (run_loadVar_row _ _ _ _ #[.int .i64 0, .string (⟨#[]⟩ : ByteArray)] _ _ HF hu30 rfl Nx.size2)) rfl ?_
            have e := H2.out
            injection e with e1 e
            injection e with e2 e
            injection e with e3 e4
            subst e1; subst e2; subst e3; subst e4
            exact ⟨_, rfl, Kd.R_nil _ _ _ _ _, below_set (below_set S1.out.2.2.1 (Nat.le_refl _)) (Nat.le_refl _)⟩
          · have d2b : (a == 0) = false := beq_eq_false_iff_ne.mpr d2
            have H2 := Aside0.mk ((if_neg d2).symm.trans H1.out)
            have HA := Aside0.mk ha
            clear H1 ha d2
            go_wp2
            go_loopw [70, 15] (fun v v2 wr => ∃ x : Int, v = .int .i64 x ∧ 0 ≤ x ∧ x ≤ l1.length ∧ Aside0 (Kd.R (Kd.int .i64) 3 wr w.heap.size (fun k => w.heap.size + 2 ≤ k) v2 (trap_Next.rest (trap_Next.m l0) a (l1.take x.toNat))) ∧ Aside0 (Nx.St w wr l0.length (trap_Next.m l0) #[.int .i64 0, .string ⟨#[]⟩])) (fun v _ _ => l1.length - (intOf v).toNat)
            case atStart => exact ⟨0, rfl, by omega, by omega, ⟨Kd.R_nil _ _ _ _ _⟩, ⟨S1.out⟩⟩
            case round =>
              obtain ⟨x, rfl, hx0, hx1, HO, S⟩ := hrel
              by_cases hlt : x < l1.length
              · have hwr : wrap64 (x + 1) = x + 1 := by unfold wrap64; omega
                have LN0 := trap_Next.rest_snoc (trap_Next.m l0) a l1 x.toNat (by omega)
                rw [show ((x.toNat : Nat) : Int) = x by omega] at LN0
                have HI := Aside0.mk (trap_Next.at_ok1 HC.out.2.2 x hx0 hlt)
                obtain ⟨ad, e, hc_0⟩ := Kd.at_int HR1.out x hx0 hlt
                cases e
                replace hc_0 := (S.out.2.2.1.cell (World.block_lt_of_cell? w _ hc_0)).trans hc_0
                have c2b2 : decide (x < (l1.length : Int)) = true := decide_eq_true hlt
                have p0 := eq_true hx0
                have q0 := eq_true hlt
                have R' := Aside0.mk (fun (W : World) (v : Value) (m : List Int) (hR : Kd.R (Kd.int .i64) 3 W w.heap.size (fun k => w.heap.size + 2 ≤ k) v m) (hm : trap_Next.rest (trap_Next.m l0) a (l1.take (x.toNat + 1)) = m) => (by rw [show (x + 1).toNat = x.toNat + 1 by omega, hm]; exact hR : Kd.R (Kd.int .i64) 3 W w.heap.size (fun k => w.heap.size + 2 ≤ k) v (trap_Next.rest (trap_Next.m l0) a (l1.take (x + 1).toNat))))
                have M' := Aside0.mk hwr
                clear hwr
                have HL := Aside0.mk (show (trap_Next.rest (trap_Next.m l0) a (l1.take x.toNat)).length ≤ 1000 from Nat.le_trans (List.length_filter_le _ _) (by rw [List.length_take]; omega))
                obtain ⟨rs, hrs⟩ : ∃ rs, trap_Next.rest (trap_Next.m l0) a (l1.take x.toNat) = rs := ⟨_, rfl⟩
                rw [hrs] at LN0 HO HL
                clear hrs
                by_cases d1 : (trap_Next.m l0 (rd l1 x)).isSome = true
                · by_cases d2 : rd l1 x = a
                  · have LN := Aside0.mk (LN0.trans (if_neg (fun h => h.2 d2)))
                    clear LN0
                    have d2b0 : (rd l1 x == a) = true := beq_iff_eq.mpr d2
                    have d2b1 : (rd l1 x != a) = false := bne_eq_false_iff_eq.mpr d2
                    clear d2
                    go_wp2_with (first | (at_lookup; refine Nx.look_step S.out _ _ (rd l1 x) rfl rfl rfl rfl HI.out ?_; intro sv))
                    go_roundw
                    case rel => exact ⟨x + 1, by first | rfl | rw [M'.out], by omega, by omega, ⟨R'.out _ _ _ HO.out LN.out⟩, S⟩
                    case measure => first | (simp [intOf]; omega) | (rw [M'.out]; simp [intOf]; omega)
                  · have LN := Aside0.mk (LN0.trans (if_pos ⟨d1, d2⟩))
                    clear LN0
                    have d2b0 : (rd l1 x == a) = false := beq_eq_false_iff_ne.mpr d2
                    have d2b1 : (rd l1 x != a) = true := bne_iff_ne.mpr d2
                    go_wp2_with (first | (at_lookup; refine Nx.look_step S.out _ _ (rd l1 x) rfl rfl rfl rfl HI.out ?_; intro sv) | ((with_reducible refine gate_builtin (b := .append) (xs := #[.tmp 86, .tmp 88]) rfl ?_); at_builtin; refine Kd.R_append (Kd.int .i64) (w0 := w) w.heap.size rfl (.tmp 86) (.tmp 88) 27 3 (.int .i64 0) 8 rfl Tryd.underlying27 info3 rfl (by decide) (by omega) u15 rs (rd l1 x) [.int .i64 (rd l1 x)] (fun k => w.heap.size + 2 ≤ k) (fun _ => False) rfl rfl ?aP (fun _ hk => hk.elim) ?aF ?aO ?aB ?aS ?aL ?_; (case aP => exact rfl); (case aB => exact S.out.2.2.1); (case aF => exact (fun k hk => Nat.le_trans S.out.2.2.2 hk)); (case aO => exact HO.out); (case aS => have := S.out.2.2.2; omega); (case aL => have := HL.out; omega); intro v3 w3 ho hb hg hat; have n0_ := Aside0.mk ho; have n1_ := Aside0.mk (S.out.grown hg (fun k hk => HO.out.1 k hk) hb hg.size); clear HO S; have HO := n0_; have S := n1_; clear n0_ n1_ ho hb hg hat))
                    go_roundw
                    case rel => exact ⟨x + 1, by first | rfl | rw [M'.out], by omega, by omega, ⟨R'.out _ _ _ HO.out LN.out⟩, S⟩
                    case measure => first | (simp [intOf]; omega) | (rw [M'.out]; simp [intOf]; omega)
                · have LN := Aside0.mk (LN0.trans (if_neg (fun h => d1 h.1)))
                  clear LN0
                  have d1b : (trap_Next.m l0 (rd l1 x)).isSome = false := by simpa using d1
                  clear d1
                  go_wp2_with (first | (at_lookup; refine Nx.look_step S.out _ _ (rd l1 x) rfl rfl rfl rfl HI.out ?_; intro sv))
                  go_roundw
                  case rel => exact ⟨x + 1, by first | rfl | rw [M'.out], by omega, by omega, ⟨R'.out _ _ _ HO.out LN.out⟩, S⟩
                  case measure => first | (simp [intOf]; omega) | (rw [M'.out]; simp [intOf]; omega)
              · have hx : x.toNat = l1.length := by omega
                have c2b2 : decide (x < (l1.length : Int)) = false := decide_eq_false hlt
                rw [hx, List.take_length] at HO
                clear hx hx0 hx1 hlt
                obtain ⟨s, hs⟩ : ∃ s, trap_Next.m l0 a = some s := by
                  cases e : trap_Next.m l0 a with
                  | none => rw [e] at H2; exact absurd H2.out (by simp)
                  | some s => exact ⟨s, rfl⟩
                have H3 := H2.out
                rw [hs] at H3
                have H4 := Aside0.mk (Option.some.inj H3)
                have hlook := Nx.look_run S.out a (trap_Next.least_wf HC.out.2.2 HA.out) s hs
                have hz_0 : wr.cell? ⟨w.heap.size, 0, none⟩ = some (.int .i64 0) := (blk_cell S.out.1 0).trans rfl
                have hz_1 : wr.cell? ⟨w.heap.size, 1, none⟩ = some (.string (⟨#[]⟩ : ByteArray)) := (blk_cell S.out.1 1).trans rfl
                have hf_0 := blk_frozen S.out.1 0
                have hf_1 := blk_frozen S.out.1 1
                clear H2 H3 hs
                go_wp2
                have HF := blk_put (blk_put S.out.1 0 (.int .i64 a) rfl) 1 (.string s) rfl
                (try simp only [Exit.inBlock, Exit.then]); refine bodyPost_ret (Nx.res3 rfl _ _ _ w.heap.size _ rfl (run_loadVar_row _ _ _ _ #[.int .i64 a, .string s] _ _ HF hu30 rfl Nx.size2)) rfl ?_
                have e := H4.out
                injection e with e1 e
                injection e with e2 e
                injection e with e3 e4
                subst e1; subst e2; subst e3; subst e4
                exact ⟨_, rfl, Kd.R_mono (Kd.R_far (p := ⟨w.heap.size, 1, none⟩) (Kd.R_far (p := ⟨w.heap.size, 0, none⟩) HO.out (fun k hk => by show k ≠ w.heap.size; omega) _) (fun k hk => by show k ≠ w.heap.size; omega) _) (fun _ _ => trivial), below_set (below_set S.out.2.2.1 (Nat.le_refl _)) (Nat.le_refl _)⟩


/-! ### trap_disposition: function 39 -/
def trap_disposition.l0 : Nat → Int → Bool → List (S30) → Int → Int → Option (Int)
  | 0, _, _, _, _, _ => none
  | k + 1, x1, x2, x9, x10, x11 => if x11 < x10 then (if 0 ≤ x11 then (if x11 < (x9.length : Int) then (if ((rd_T30 x9 x11).f0) = x1 then (if ((rd_T30 x9 x11).f1).toList = ([] : List UInt8) then (some 1) else (some 2)) else (trap_disposition.l0 k x1 x2 x9 x10 (wrap64 (x11 + 1)))) else (none)) else (none)) else (if x2 = true then (if x1 = 2 then (some 2) else (if x1 = 3 then (some 1) else (if x1 = 4 then (some 1) else (if x1 = 5 then (some 1) else (if x1 = 15 then (some 1) else (if x1 = 20 then (some 1) else (some 0))))))) else (some 0))
def trap_disposition.f (k : Nat) (l0 : List (S30)) (a1 : Int) (a2 : Bool) : Option (Int) := trap_disposition.l0 k a1 a2 l0 (l0.length : Int) 0
theorem trap_disposition.mono_l : ∀ k, (∀ y0 y1 y2 y3 y4, LeO (trap_disposition.l0 k y0 y1 y2 y3 y4) (trap_disposition.l0 (k + 1) y0 y1 y2 y3 y4))
  | 0 => fun _ _ _ _ _ r h => by simp [trap_disposition.l0] at h
  | k + 1 => by
    have ih0 := trap_disposition.mono_l k
    · intro y0 y1 y2 y3 y4
      unfold trap_disposition.l0
      repeat' first
      | (with_reducible exact ih0 _ _ _ _ _)
      | (with_reducible exact LeO.refl _)
      | (with_reducible exact LeO.none _)
      | (with_reducible refine LeO.ite ?_ ?_)
      | (with_reducible refine LeO.bind ?_ (fun _ => ?_))
      | exact ih0 _ _ _ _ _
      | exact LeO.none _
      | refine LeO.ite ?_ ?_
      | refine LeO.bind ?_ (fun _ => ?_)
theorem trap_disposition.mono : ∀ a0 a1 a2 k, LeO (trap_disposition.f k a0 a1 a2) (trap_disposition.f (k + 1) a0 a1 a2) := by
  intro a0 a1 a2 k
  have ih0 := trap_disposition.mono_l k
  unfold trap_disposition.f
  repeat' first
      | (with_reducible exact ih0 _ _ _ _ _)
      | (with_reducible exact LeO.refl _)
      | (with_reducible exact LeO.none _)
      | (with_reducible refine LeO.ite ?_ ?_)
      | (with_reducible refine LeO.bind ?_ (fun _ => ?_))
      | exact ih0 _ _ _ _ _
      | exact LeO.none _
      | refine LeO.ite ?_ ?_
      | refine LeO.bind ?_ (fun _ => ?_)
set_option maxHeartbeats 8000000 in
set_option maxRecDepth 100000 in
theorem trap_disposition.calls (k : Nat) (A0 : Option Addr) (c0 : Nat) (l0 : List (S30)) (a1 : Int) (a2 : Bool) (r : Int) (w : World) (hr0 : Kd.C k30 w A0 l0.length l0) (hc0 : l0.length ≤ c0) (h : trap_disposition.f k l0 a1 a2 = some r) :
    Calls Tryd.prog 39 #[.slice A0 l0.length c0, .int .i64 a1, .bool a2] w fun e w' => e = .returned (.int .i64 r) ∧ Below w.heap.size w w' := by
  have hu30 := Tryd.underlying30
  have HR0 := Aside0.mk hr0
  have HC0 := Aside0.mk hc0
  clear hr0 hc0
  have HB := Aside0.mk (Below.refl w.heap.size w)
  have H : (trap_disposition.l0 k a1 a2 l0 (l0.length : Int) 0) = some r := h
  clear h
  have H' := Aside0.mk H
  clear H
  go_enter Tryd.func39, Tryd.ntmps39
  go_wp2
  go_loopg [11] k (fun kq v11 w' => ∃ (x11_1 : Int), v11 = .int .i64 x11_1 ∧ Aside0 (trap_disposition.l0 kq a1 a2 l0 (l0.length : Int) x11_1 = some r) ∧ Aside0 (kq ≤ k) ∧ Aside0 (Below w.heap.size w w'))
  case atStart => exact ⟨(0), (by first | rfl | (simp; done) | (simp [*]; done) | exact congrArg (fun b => Ending.returned (Value.bool b)) (Ch.bne_nil _)), H', ⟨Nat.le_refl _⟩, ⟨by repeat (first | (with_reducible first | exact HB.out | apply below_alloc | apply pw_below_drewN | apply below_drew1) | exact HB.out)⟩⟩
  case round =>
    clear H'
    try clear p2
    try clear c3
    obtain ⟨x11_1, rfl, HA, HK1, HB⟩ := hrel
    cases gk with
    | zero => exact absurd HA.out (by simp [trap_disposition.l0])
    | succ k1 =>
      have H := HA.out
      clear HA
      simp only [trap_disposition.l0] at H
      by_cases c4 : x11_1 < (l0.length : Int)
      · rw [if_pos c4] at H
        have c4b0 : decide (x11_1 < (l0.length : Int)) = true := decide_eq_true c4
        clear c4
        by_cases c5 : 0 ≤ x11_1
        · rw [if_pos c5] at H
          have c5b0 : decide (0 ≤ x11_1) = true := decide_eq_true c5
          clear c5
          by_cases c6 : x11_1 < (l0.length : Int)
          · rw [if_pos c6] at H
            have c6b0 : decide (x11_1 < (l0.length : Int)) = true := decide_eq_true c6
            clear c6
            by_cases c7 : ((rd_T30 l0 x11_1).f0) = a1
            · rw [if_pos c7] at H
              have c7b0 : (((rd_T30 l0 x11_1).f0) == a1) = true := beq_iff_eq.mpr c7
              have c7b1 : (((rd_T30 l0 x11_1).f0) != a1) = false := bne_eq_false_iff_eq.mpr c7
              clear c7
              by_cases c8 : ((rd_T30 l0 x11_1).f1).toList = ([] : List UInt8)
              · rw [if_pos c8] at H
                have c8b0 : (((rd_T30 l0 x11_1).f1).toList == ([] : List UInt8)) = true := beq_iff_eq.mpr c8
                have c8b1 : (((rd_T30 l0 x11_1).f1).toList != ([] : List UInt8)) = false := bne_eq_false_iff_eq.mpr c8
                clear c8
                obtain rfl := Option.some.inj H
                have p111 : 0 ≤ (x11_1 : Int) := of_decide_eq_true (by first | (with_reducible assumption) | assumption)
                have q111 : x11_1 < (l0.length : Int) := of_decide_eq_true (by first | (with_reducible assumption) | assumption)
                obtain ⟨ad111, e111, hx111_0, hx111_1⟩ := at_T30 HR0.out x11_1 p111 q111
                cases e111
                replace hx111_0 := (HB.out.cell (World.block_lt_of_cell? w _ hx111_0)).trans hx111_0
                replace hx111_1 := (HB.out.cell (World.block_lt_of_cell? w _ hx111_1)).trans hx111_1
                replace p111 := eq_true p111
                replace q111 := eq_true q111
                go_wp2_with (first | ((with_reducible refine gate_dst (N := 8) rfl ?_); refine box_event ?hg (N := 8) ?hd (cs := #[.int .i64 0, .string (⟨#[]⟩ : ByteArray)]) (t := 30) ?hr ?_; (case hd => rfl); (case hg => rfl); (case hr => first | (go_simp; done) | (go_simp; rfl)); intro gb112 hg w9 hbox hb; have n0_ := Aside0.mk (below_step (by repeat (first | (with_reducible first | exact HB.out | apply below_alloc | apply pw_below_drewN | apply below_drew1) | exact HB.out)) hb); have n1_ := Aside0.mk (hbox); have n2_ := Aside0.mk ((by rw [hg]; exact (below_size (by repeat (first | (with_reducible first | exact HB.out | apply below_alloc | apply pw_below_drewN | apply below_drew1) | exact HB.out))) : w.heap.size ≤ gb112)); have n3_ := Aside0.mk ((by rw [hg]; exact (below_size (by repeat (first | (with_reducible first | exact HB.out | apply below_alloc | apply pw_below_drewN | apply below_drew1) | exact HB.out))) : w.heap.size ≤ gb112)); clear HB; have HB := n0_; have BK112 := n1_; have GW112 := n2_; have GE112 := n3_; clear n0_ n1_ n2_ n3_; clear hb hbox hg; have hcz10_0 : w9.cell? ⟨gb112, 0, none⟩ = some (.int .i64 0) := (blk_cell BK112.out 0).trans rfl; have hcz10_1 : w9.cell? ⟨gb112, 1, none⟩ = some (.string (⟨#[]⟩ : ByteArray)) := (blk_cell BK112.out 1).trans rfl; have hfz10_0 := blk_frozen BK112.out 0; have hfz10_1 := blk_frozen BK112.out 1))
                go_ret
                exact ⟨by first | rfl | (simp [errW_none, errW_some] <;> rfl) | (simp [*, errW_none, errW_some] <;> rfl), by repeat (first | (with_reducible first | exact HB.out | apply below_alloc | apply pw_below_drewN | apply below_drew1 | refine below_set ?_ GE112.out) | exact HB.out)⟩
              · rw [if_neg c8] at H
                have c8b0 : (((rd_T30 l0 x11_1).f1).toList == ([] : List UInt8)) = false := beq_eq_false_iff_ne.mpr c8
                have c8b1 : (((rd_T30 l0 x11_1).f1).toList != ([] : List UInt8)) = true := bne_iff_ne.mpr c8
                obtain rfl := Option.some.inj H
                have p111 : 0 ≤ (x11_1 : Int) := of_decide_eq_true (by first | (with_reducible assumption) | assumption)
                have q111 : x11_1 < (l0.length : Int) := of_decide_eq_true (by first | (with_reducible assumption) | assumption)
                obtain ⟨ad111, e111, hx111_0, hx111_1⟩ := at_T30 HR0.out x11_1 p111 q111
                cases e111
                replace hx111_0 := (HB.out.cell (World.block_lt_of_cell? w _ hx111_0)).trans hx111_0
                replace hx111_1 := (HB.out.cell (World.block_lt_of_cell? w _ hx111_1)).trans hx111_1
                replace p111 := eq_true p111
                replace q111 := eq_true q111
                go_wp2_with (first | ((with_reducible refine gate_dst (N := 8) rfl ?_); refine box_event ?hg (N := 8) ?hd (cs := #[.int .i64 0, .string (⟨#[]⟩ : ByteArray)]) (t := 30) ?hr ?_; (case hd => rfl); (case hg => rfl); (case hr => first | (go_simp; done) | (go_simp; rfl)); intro gb112 hg w11 hbox hb; have n0_ := Aside0.mk (below_step (by repeat (first | (with_reducible first | exact HB.out | apply below_alloc | apply pw_below_drewN | apply below_drew1) | exact HB.out)) hb); have n1_ := Aside0.mk (hbox); have n2_ := Aside0.mk ((by rw [hg]; exact (below_size (by repeat (first | (with_reducible first | exact HB.out | apply below_alloc | apply pw_below_drewN | apply below_drew1) | exact HB.out))) : w.heap.size ≤ gb112)); have n3_ := Aside0.mk ((by rw [hg]; exact (below_size (by repeat (first | (with_reducible first | exact HB.out | apply below_alloc | apply pw_below_drewN | apply below_drew1) | exact HB.out))) : w.heap.size ≤ gb112)); clear HB; have HB := n0_; have BK112 := n1_; have GW112 := n2_; have GE112 := n3_; clear n0_ n1_ n2_ n3_; clear hb hbox hg; have hcz12_0 : w11.cell? ⟨gb112, 0, none⟩ = some (.int .i64 0) := (blk_cell BK112.out 0).trans rfl; have hcz12_1 : w11.cell? ⟨gb112, 1, none⟩ = some (.string (⟨#[]⟩ : ByteArray)) := (blk_cell BK112.out 1).trans rfl; have hfz12_0 := blk_frozen BK112.out 0; have hfz12_1 := blk_frozen BK112.out 1))
                go_ret
                exact ⟨by first | rfl | (simp [errW_none, errW_some] <;> rfl) | (simp [*, errW_none, errW_some] <;> rfl), by repeat (first | (with_reducible first | exact HB.out | apply below_alloc | apply pw_below_drewN | apply below_drew1 | refine below_set ?_ GE112.out) | exact HB.out)⟩
            · rw [if_neg c7] at H
              have c7b0 : (((rd_T30 l0 x11_1).f0) == a1) = false := beq_eq_false_iff_ne.mpr c7
              have c7b1 : (((rd_T30 l0 x11_1).f0) != a1) = true := bne_iff_ne.mpr c7
              have H' := Aside0.mk H
              clear H
              have p111 : 0 ≤ (x11_1 : Int) := of_decide_eq_true (by first | (with_reducible assumption) | assumption)
              have q111 : x11_1 < (l0.length : Int) := of_decide_eq_true (by first | (with_reducible assumption) | assumption)
              obtain ⟨ad111, e111, hx111_0, hx111_1⟩ := at_T30 HR0.out x11_1 p111 q111
              cases e111
              replace hx111_0 := (HB.out.cell (World.block_lt_of_cell? w _ hx111_0)).trans hx111_0
              replace hx111_1 := (HB.out.cell (World.block_lt_of_cell? w _ hx111_1)).trans hx111_1
              replace p111 := eq_true p111
              replace q111 := eq_true q111
              go_wp2_with (first | ((with_reducible refine gate_dst (N := 8) rfl ?_); refine box_event ?hg (N := 8) ?hd (cs := #[.int .i64 0, .string (⟨#[]⟩ : ByteArray)]) (t := 30) ?hr ?_; (case hd => rfl); (case hg => rfl); (case hr => first | (go_simp; done) | (go_simp; rfl)); intro gb112 hg w13 hbox hb; have n0_ := Aside0.mk (below_step (by repeat (first | (with_reducible first | exact HB.out | apply below_alloc | apply pw_below_drewN | apply below_drew1) | exact HB.out)) hb); have n1_ := Aside0.mk (hbox); have n2_ := Aside0.mk ((by rw [hg]; exact (below_size (by repeat (first | (with_reducible first | exact HB.out | apply below_alloc | apply pw_below_drewN | apply below_drew1) | exact HB.out))) : w.heap.size ≤ gb112)); have n3_ := Aside0.mk ((by rw [hg]; exact (below_size (by repeat (first | (with_reducible first | exact HB.out | apply below_alloc | apply pw_below_drewN | apply below_drew1) | exact HB.out))) : w.heap.size ≤ gb112)); clear HB; have HB := n0_; have BK112 := n1_; have GW112 := n2_; have GE112 := n3_; clear n0_ n1_ n2_ n3_; clear hb hbox hg; have hcz14_0 : w13.cell? ⟨gb112, 0, none⟩ = some (.int .i64 0) := (blk_cell BK112.out 0).trans rfl; have hcz14_1 : w13.cell? ⟨gb112, 1, none⟩ = some (.string (⟨#[]⟩ : ByteArray)) := (blk_cell BK112.out 1).trans rfl; have hfz14_0 := blk_frozen BK112.out 0; have hfz14_1 := blk_frozen BK112.out 1))
              go_roundg k1
              case measure => have := HK1.out; omega
              case rel => exact ⟨(wrap64 (x11_1 + 1)), (by first | rfl | (simp; done) | (simp [*]; done) | exact congrArg (fun b => Ending.returned (Value.bool b)) (Ch.bne_nil _)), H', ⟨by have := HK1.out; omega⟩, ⟨by repeat (first | (with_reducible first | exact HB.out | apply below_alloc | apply pw_below_drewN | apply below_drew1 | refine below_set ?_ GE112.out) | exact HB.out)⟩⟩
          · rw [if_neg c6] at H
            exact absurd H (by simp)
        · rw [if_neg c5] at H
          exact absurd H (by simp)
      · rw [if_neg c4] at H
        have c4b0 : decide (x11_1 < (l0.length : Int)) = false := decide_eq_false c4
        clear c4
        by_cases c15 : a2 = true
        · subst c15
          have H1 : (if a1 = 2 then (some 2) else (if a1 = 3 then (some 1) else (if a1 = 4 then (some 1) else (if a1 = 5 then (some 1) else (if a1 = 15 then (some 1) else (if a1 = 20 then (some 1) else (some 0))))))) = some r := by rw [if_pos rfl] at H; exact H
          clear H
          have H := H1
          clear H1
          by_cases c16 : a1 = 2
          · rw [if_pos c16] at H
            have c16b0 : (a1 == 2) = true := beq_iff_eq.mpr c16
            have c16b1 : (a1 != 2) = false := bne_eq_false_iff_eq.mpr c16
            clear c16
            obtain rfl := Option.some.inj H
            go_wp2
            go_ret
            exact ⟨by first | rfl | (simp [errW_none, errW_some] <;> rfl) | (simp [*, errW_none, errW_some] <;> rfl), by repeat (first | (with_reducible first | exact HB.out | apply below_alloc | apply pw_below_drewN | apply below_drew1) | exact HB.out)⟩
          · rw [if_neg c16] at H
            have c16b0 : (a1 == 2) = false := beq_eq_false_iff_ne.mpr c16
            have c16b1 : (a1 != 2) = true := bne_iff_ne.mpr c16
            by_cases c17 : a1 = 3
            · rw [if_pos c17] at H
              have c17b0 : (a1 == 3) = true := beq_iff_eq.mpr c17
              have c17b1 : (a1 != 3) = false := bne_eq_false_iff_eq.mpr c17
              clear c17
              obtain rfl := Option.some.inj H
              go_wp2
              go_ret
              exact ⟨by first | rfl | (simp [errW_none, errW_some] <;> rfl) | (simp [*, errW_none, errW_some] <;> rfl), by repeat (first | (with_reducible first | exact HB.out | apply below_alloc | apply pw_below_drewN | apply below_drew1) | exact HB.out)⟩
            · rw [if_neg c17] at H
              have c17b0 : (a1 == 3) = false := beq_eq_false_iff_ne.mpr c17
              have c17b1 : (a1 != 3) = true := bne_iff_ne.mpr c17
              by_cases c18 : a1 = 4
              · rw [if_pos c18] at H
                have c18b0 : (a1 == 4) = true := beq_iff_eq.mpr c18
                have c18b1 : (a1 != 4) = false := bne_eq_false_iff_eq.mpr c18
                clear c18
                obtain rfl := Option.some.inj H
                go_wp2
                go_ret
                exact ⟨by first | rfl | (simp [errW_none, errW_some] <;> rfl) | (simp [*, errW_none, errW_some] <;> rfl), by repeat (first | (with_reducible first | exact HB.out | apply below_alloc | apply pw_below_drewN | apply below_drew1) | exact HB.out)⟩
              · rw [if_neg c18] at H
                have c18b0 : (a1 == 4) = false := beq_eq_false_iff_ne.mpr c18
                have c18b1 : (a1 != 4) = true := bne_iff_ne.mpr c18
                by_cases c19 : a1 = 5
                · rw [if_pos c19] at H
                  have c19b0 : (a1 == 5) = true := beq_iff_eq.mpr c19
                  have c19b1 : (a1 != 5) = false := bne_eq_false_iff_eq.mpr c19
                  clear c19
                  obtain rfl := Option.some.inj H
                  go_wp2
                  go_ret
                  exact ⟨by first | rfl | (simp [errW_none, errW_some] <;> rfl) | (simp [*, errW_none, errW_some] <;> rfl), by repeat (first | (with_reducible first | exact HB.out | apply below_alloc | apply pw_below_drewN | apply below_drew1) | exact HB.out)⟩
                · rw [if_neg c19] at H
                  have c19b0 : (a1 == 5) = false := beq_eq_false_iff_ne.mpr c19
                  have c19b1 : (a1 != 5) = true := bne_iff_ne.mpr c19
                  by_cases c20 : a1 = 15
                  · rw [if_pos c20] at H
                    have c20b0 : (a1 == 15) = true := beq_iff_eq.mpr c20
                    have c20b1 : (a1 != 15) = false := bne_eq_false_iff_eq.mpr c20
                    clear c20
                    obtain rfl := Option.some.inj H
                    go_wp2
                    go_ret
                    exact ⟨by first | rfl | (simp [errW_none, errW_some] <;> rfl) | (simp [*, errW_none, errW_some] <;> rfl), by repeat (first | (with_reducible first | exact HB.out | apply below_alloc | apply pw_below_drewN | apply below_drew1) | exact HB.out)⟩
                  · rw [if_neg c20] at H
                    have c20b0 : (a1 == 15) = false := beq_eq_false_iff_ne.mpr c20
                    have c20b1 : (a1 != 15) = true := bne_iff_ne.mpr c20
                    by_cases c21 : a1 = 20
                    · rw [if_pos c21] at H
                      have c21b0 : (a1 == 20) = true := beq_iff_eq.mpr c21
                      have c21b1 : (a1 != 20) = false := bne_eq_false_iff_eq.mpr c21
                      clear c21
                      obtain rfl := Option.some.inj H
                      go_wp2
                      go_ret
                      exact ⟨by first | rfl | (simp [errW_none, errW_some] <;> rfl) | (simp [*, errW_none, errW_some] <;> rfl), by repeat (first | (with_reducible first | exact HB.out | apply below_alloc | apply pw_below_drewN | apply below_drew1) | exact HB.out)⟩
                    · rw [if_neg c21] at H
                      have c21b0 : (a1 == 20) = false := beq_eq_false_iff_ne.mpr c21
                      have c21b1 : (a1 != 20) = true := bne_iff_ne.mpr c21
                      obtain rfl := Option.some.inj H
                      go_wp2
                      go_ret
                      exact ⟨by first | rfl | (simp [errW_none, errW_some] <;> rfl) | (simp [*, errW_none, errW_some] <;> rfl), by repeat (first | (with_reducible first | exact HB.out | apply below_alloc | apply pw_below_drewN | apply below_drew1) | exact HB.out)⟩
        · replace c15 := Bool.eq_false_iff.mpr c15
          subst c15
          have H1 : (some 0) = some r := by rw [if_neg (show ¬ (false = true) by decide)] at H; exact H
          clear H
          have H := H1
          clear H1
          obtain rfl := Option.some.inj H
          go_wp2
          go_ret
          exact ⟨by first | rfl | (simp [errW_none, errW_some] <;> rfl) | (simp [*, errW_none, errW_some] <;> rfl), by repeat (first | (with_reducible first | exact HB.out | apply below_alloc | apply pw_below_drewN | apply below_drew1) | exact HB.out)⟩

/-! ### trap_Requests: function 17 -/
def trap_Requests.l0 : Nat → List (S30) → List (S30) → Bool → List (S40) → Int → Option ((List (S40)))
  | 0, _, _, _, _, _ => none
  | k + 1, x0, x1, x2, x7, x8 => if x8 ≤ 20 then ((trap_disposition.f k x1 x8 x2).bind fun t113 => ((signal_Name.f x8).bind fun t114 => (if t114.toList = ([] : List UInt8) then (trap_Requests.l0 k x0 x1 x2 x7 (wrap64 (x8 + 1))) else (if x8 = 9 then (trap_Requests.l0 k x0 x1 x2 x7 (wrap64 (x8 + 1))) else (if x8 = 19 then (trap_Requests.l0 k x0 x1 x2 x7 (wrap64 (x8 + 1))) else ((trap_disposition.f k x0 x8 x2).bind fun t115 => (if t113 = t115 then (trap_Requests.l0 k x0 x1 x2 x7 (wrap64 (x8 + 1))) else (if x7.length < 977343669134 then (trap_Requests.l0 k x0 x1 x2 (x7 ++ [(⟨14, 0, 0, 0, 0, x8, t113, 0, (⟨#[]⟩ : ByteArray), (⟨#[]⟩ : ByteArray), ([] : List ByteArray), ([] : List ByteArray)⟩ : S40)]) (wrap64 (x8 + 1))) else (none))))))))) else (some x7)
def trap_Requests.f (k : Nat) (l0 : List (S30)) (l1 : List (S30)) (a2 : Bool) : Option ((List (S40))) := trap_Requests.l0 k l0 l1 a2 ([] : List (S40)) 1
theorem trap_Requests.mono_l : ∀ k, (∀ y0 y1 y2 y3 y4, LeO (trap_Requests.l0 k y0 y1 y2 y3 y4) (trap_Requests.l0 (k + 1) y0 y1 y2 y3 y4))
  | 0 => fun _ _ _ _ _ r h => by simp [trap_Requests.l0] at h
  | k + 1 => by
    have ih0 := trap_Requests.mono_l k
    · intro y0 y1 y2 y3 y4
      unfold trap_Requests.l0
      repeat' first
      | (with_reducible exact ih0 _ _ _ _ _)
      | (with_reducible exact trap_disposition.mono _ _ _ _)
      | (with_reducible exact LeO.refl _)
      | (with_reducible exact LeO.none _)
      | (with_reducible refine LeO.ite ?_ ?_)
      | (with_reducible refine LeO.bind ?_ (fun _ => ?_))
      | exact ih0 _ _ _ _ _
      | exact trap_disposition.mono _ _ _ _
      | exact LeO.none _
      | refine LeO.ite ?_ ?_
      | refine LeO.bind ?_ (fun _ => ?_)
theorem trap_Requests.mono : ∀ a0 a1 a2 k, LeO (trap_Requests.f k a0 a1 a2) (trap_Requests.f (k + 1) a0 a1 a2) := by
  intro a0 a1 a2 k
  have ih0 := trap_Requests.mono_l k
  unfold trap_Requests.f
  repeat' first
      | (with_reducible exact ih0 _ _ _ _ _)
      | (with_reducible exact trap_disposition.mono _ _ _ _)
      | (with_reducible exact LeO.refl _)
      | (with_reducible exact LeO.none _)
      | (with_reducible refine LeO.ite ?_ ?_)
      | (with_reducible refine LeO.bind ?_ (fun _ => ?_))
      | exact ih0 _ _ _ _ _
      | exact trap_disposition.mono _ _ _ _
      | exact LeO.none _
      | refine LeO.ite ?_ ?_
      | refine LeO.bind ?_ (fun _ => ?_)
set_option maxHeartbeats 8000000 in
set_option maxRecDepth 100000 in
theorem trap_Requests.calls (k : Nat) (A0 : Option Addr) (c0 : Nat) (l0 : List (S30)) (A1 : Option Addr) (c1 : Nat) (l1 : List (S30)) (a2 : Bool) (r : List (S40)) (w : World) (hr0 : Kd.C k30 w A0 l0.length l0) (hc0 : l0.length ≤ c0) (hr1 : Kd.C k30 w A1 l1.length l1) (hc1 : l1.length ≤ c1) (h : trap_Requests.f k l0 l1 a2 = some r) :
    Calls Tryd.prog 17 #[.slice A0 l0.length c0, .slice A1 l1.length c1, .bool a2] w fun e w' => ∃ v0_ : Value, e = .returned (v0_) ∧ Kd.S k40 40 w' w.heap.size (fun _ => True) v0_ r ∧ Below w.heap.size w w' := by
  have hu40 := Tryd.underlying40
  have HR0 := Aside0.mk hr0
  have HC0 := Aside0.mk hc0
  clear hr0 hc0
  have HR1 := Aside0.mk hr1
  have HC1 := Aside0.mk hc1
  clear hr1 hc1
  have HB := Aside0.mk (Below.refl w.heap.size w)
  have H : (trap_Requests.l0 k l0 l1 a2 ([] : List (S40)) 1) = some r := h
  clear h
  have H' := Aside0.mk H
  clear H
  go_enter Tryd.func17, Tryd.ntmps17
  go_wp2
  go_loopg [7, 8] k (fun kq v7 v8 w' => ∃ (x7_1 : List (S40)) (x8_1 : Int), v8 = .int .i64 x8_1 ∧ Aside0 (trap_Requests.l0 kq l0 l1 a2 x7_1 x8_1 = some r) ∧ Aside0 (kq ≤ k) ∧ Aside0 (Kd.S k40 40 w' w.heap.size (fun _ => True) v7 x7_1) ∧ Aside0 (Below w.heap.size w w'))
  case atStart => exact ⟨(([] : List (S40))), (1), (by first | rfl | (simp; done) | (simp [*]; done) | exact congrArg (fun b => Ending.returned (Value.bool b)) (Ch.bne_nil _)), H', ⟨Nat.le_refl _⟩, ⟨by first | exact Kd.S_nil _ _ _ _ _ | exact Kd.N_nil _ _ _ _ _ | exact Kd.V_nil _ _ _ _ _ | exact Kd.Q_nil _ _ _ _ _ | exact Kd.R_nil _ _ _ _ _⟩, ⟨by repeat (first | (with_reducible first | exact HB.out | apply below_alloc | apply pw_below_drewN | apply below_drew1) | exact HB.out)⟩⟩
  case round =>
    clear H'
    try clear c1
    try clear p2
    obtain ⟨x7_1, x8_1, rfl, HA, HK1, HO_7, HB⟩ := hrel
    cases gk with
    | zero => exact absurd HA.out (by simp [trap_Requests.l0])
    | succ k1 =>
      have H := HA.out
      clear HA
      simp only [trap_Requests.l0] at H
      by_cases c4 : x8_1 ≤ 20
      · rw [if_pos c4] at H
        have c4b0 : decide (x8_1 ≤ 20) = true := decide_eq_true c4
        clear c4
        replace H := Option.bind_eq_some_iff.mp H
        obtain ⟨t113, A50, H⟩ := H
        replace H : ((signal_Name.f x8_1).bind fun t114 => (if t114.toList = ([] : List UInt8) then (trap_Requests.l0 k1 l0 l1 a2 x7_1 (wrap64 (x8_1 + 1))) else (if x8_1 = 9 then (trap_Requests.l0 k1 l0 l1 a2 x7_1 (wrap64 (x8_1 + 1))) else (if x8_1 = 19 then (trap_Requests.l0 k1 l0 l1 a2 x7_1 (wrap64 (x8_1 + 1))) else ((trap_disposition.f k1 l0 x8_1 a2).bind fun t115 => (if t113 = t115 then (trap_Requests.l0 k1 l0 l1 a2 x7_1 (wrap64 (x8_1 + 1))) else (if x7_1.length < 977343669134 then (trap_Requests.l0 k1 l0 l1 a2 (x7_1 ++ [(⟨14, 0, 0, 0, 0, x8_1, t113, 0, (⟨#[]⟩ : ByteArray), (⟨#[]⟩ : ByteArray), ([] : List ByteArray), ([] : List ByteArray)⟩ : S40)]) (wrap64 (x8_1 + 1))) else (none)))))))) = some r := H
        have A5 := Aside0.mk A50
        clear A50
        replace H := Option.bind_eq_some_iff.mp H
        obtain ⟨t114, A60, H⟩ := H
        replace H : (if t114.toList = ([] : List UInt8) then (trap_Requests.l0 k1 l0 l1 a2 x7_1 (wrap64 (x8_1 + 1))) else (if x8_1 = 9 then (trap_Requests.l0 k1 l0 l1 a2 x7_1 (wrap64 (x8_1 + 1))) else (if x8_1 = 19 then (trap_Requests.l0 k1 l0 l1 a2 x7_1 (wrap64 (x8_1 + 1))) else ((trap_disposition.f k1 l0 x8_1 a2).bind fun t115 => (if t113 = t115 then (trap_Requests.l0 k1 l0 l1 a2 x7_1 (wrap64 (x8_1 + 1))) else (if x7_1.length < 977343669134 then (trap_Requests.l0 k1 l0 l1 a2 (x7_1 ++ [(⟨14, 0, 0, 0, 0, x8_1, t113, 0, (⟨#[]⟩ : ByteArray), (⟨#[]⟩ : ByteArray), ([] : List ByteArray), ([] : List ByteArray)⟩ : S40)]) (wrap64 (x8_1 + 1))) else (none))))))) = some r := H
        have A6 := Aside0.mk A60
        clear A60
        by_cases c7 : t114.toList = ([] : List UInt8)
        · rw [if_pos c7] at H
          have c7b0 : (t114.toList == ([] : List UInt8)) = true := beq_iff_eq.mpr c7
          have c7b1 : (t114.toList != ([] : List UInt8)) = false := bne_eq_false_iff_eq.mpr c7
          clear c7
          have H' := Aside0.mk H
          clear H
          go_wp2_with (first | ((with_reducible refine gate_callee (f := 39) rfl ?_); refine goesL_ (some 17) rfl rfl Tryd.func39 (by kernel_rfl) rfl #[.slice A1 l1.length c1, .int .i64 x8_1, .bool a2] rfl (by (try simp only [List.map_toArray, List.map_cons, List.map_nil]); first | done | rfl | (simp only [List.length_drop, List.length_take]; rfl)) ?_; (with_reducible refine (trap_disposition.calls k1 _ _ l1 x8_1 a2 t113 _ ?side1 ?side2 A5.out).mono ?_); (case side1 => repeat (first | exact (Kd.C_below HR1.out HB.out) | (with_reducible refine Kd.C_alloc ?_ _) | (with_reducible refine Kd.C_drewN ?_ _) | (with_reducible refine Kd.C_drew ?_))); (case side2 => exact HC1.out); rintro e w8 ⟨rfl, hb⟩; refine ⟨_, rfl, ?_⟩; have n0_ := Aside0.mk (Kd.S_below (by (with_reducible repeat (first | apply Kd.S_alloc | apply Kd.S_drewN | apply Kd.S_drew)); exact HO_7.out) hb); have n1_ := Aside0.mk (below_step (by repeat (first | (with_reducible first | exact HB.out | apply below_alloc | apply pw_below_drewN | apply below_drew1) | exact HB.out)) hb); clear HO_7; clear HB; have HO_7 := n0_; have HB := n1_; clear n0_ n1_; (try clear hb); (try clear hb2); (try clear hk); (try clear hi)) | ((with_reducible refine gate_callee (f := 33) rfl ?_); refine goesL_ (some 19) rfl rfl Tryd.func33 (by kernel_rfl) rfl #[.int .i64 x8_1] rfl (by (try simp only [List.map_toArray, List.map_cons, List.map_nil]); first | done | rfl | (simp only [List.length_drop, List.length_take]; rfl)) ?_; (with_reducible refine (signal_Name.calls x8_1 t114 _ A6.out).mono ?_); rintro e w9 ⟨rfl, hb⟩; refine ⟨_, rfl, ?_⟩; have n0_ := Aside0.mk (Kd.S_below (by (with_reducible repeat (first | apply Kd.S_alloc | apply Kd.S_drewN | apply Kd.S_drew)); exact HO_7.out) hb); have n1_ := Aside0.mk (below_step (by repeat (first | (with_reducible first | exact HB.out | apply below_alloc | apply pw_below_drewN | apply below_drew1) | exact HB.out)) hb); clear HO_7; clear HB; have HO_7 := n0_; have HB := n1_; clear n0_ n1_; (try clear hb); (try clear hb2); (try clear hk); (try clear hi)))
          go_roundg k1
          case measure => have := HK1.out; omega
          case rel => exact ⟨(x7_1), (wrap64 (x8_1 + 1)), (by first | rfl | (simp; done) | (simp [*]; done) | exact congrArg (fun b => Ending.returned (Value.bool b)) (Ch.bne_nil _)), H', ⟨by have := HK1.out; omega⟩, ⟨by (with_reducible repeat (first | apply Kd.S_alloc | apply Kd.S_drewN | apply Kd.S_drew)); exact HO_7.out⟩, ⟨by repeat (first | (with_reducible first | exact HB.out | apply below_alloc | apply pw_below_drewN | apply below_drew1) | exact HB.out)⟩⟩
        · rw [if_neg c7] at H
          have c7b0 : (t114.toList == ([] : List UInt8)) = false := beq_eq_false_iff_ne.mpr c7
          have c7b1 : (t114.toList != ([] : List UInt8)) = true := bne_iff_ne.mpr c7
          by_cases c10 : x8_1 = 9
          · rw [if_pos c10] at H
            have c10b0 : (x8_1 == 9) = true := beq_iff_eq.mpr c10
            have c10b1 : (x8_1 != 9) = false := bne_eq_false_iff_eq.mpr c10
            clear c10
            have H' := Aside0.mk H
            clear H
            go_wp2_with (first | ((with_reducible refine gate_callee (f := 39) rfl ?_); refine goesL_ (some 17) rfl rfl Tryd.func39 (by kernel_rfl) rfl #[.slice A1 l1.length c1, .int .i64 x8_1, .bool a2] rfl (by (try simp only [List.map_toArray, List.map_cons, List.map_nil]); first | done | rfl | (simp only [List.length_drop, List.length_take]; rfl)) ?_; (with_reducible refine (trap_disposition.calls k1 _ _ l1 x8_1 a2 t113 _ ?side1 ?side2 A5.out).mono ?_); (case side1 => repeat (first | exact (Kd.C_below HR1.out HB.out) | (with_reducible refine Kd.C_alloc ?_ _) | (with_reducible refine Kd.C_drewN ?_ _) | (with_reducible refine Kd.C_drew ?_))); (case side2 => exact HC1.out); rintro e w11 ⟨rfl, hb⟩; refine ⟨_, rfl, ?_⟩; have n0_ := Aside0.mk (Kd.S_below (by (with_reducible repeat (first | apply Kd.S_alloc | apply Kd.S_drewN | apply Kd.S_drew)); exact HO_7.out) hb); have n1_ := Aside0.mk (below_step (by repeat (first | (with_reducible first | exact HB.out | apply below_alloc | apply pw_below_drewN | apply below_drew1) | exact HB.out)) hb); clear HO_7; clear HB; have HO_7 := n0_; have HB := n1_; clear n0_ n1_; (try clear hb); (try clear hb2); (try clear hk); (try clear hi)) | ((with_reducible refine gate_callee (f := 33) rfl ?_); refine goesL_ (some 19) rfl rfl Tryd.func33 (by kernel_rfl) rfl #[.int .i64 x8_1] rfl (by (try simp only [List.map_toArray, List.map_cons, List.map_nil]); first | done | rfl | (simp only [List.length_drop, List.length_take]; rfl)) ?_; (with_reducible refine (signal_Name.calls x8_1 t114 _ A6.out).mono ?_); rintro e w12 ⟨rfl, hb⟩; refine ⟨_, rfl, ?_⟩; have n0_ := Aside0.mk (Kd.S_below (by (with_reducible repeat (first | apply Kd.S_alloc | apply Kd.S_drewN | apply Kd.S_drew)); exact HO_7.out) hb); have n1_ := Aside0.mk (below_step (by repeat (first | (with_reducible first | exact HB.out | apply below_alloc | apply pw_below_drewN | apply below_drew1) | exact HB.out)) hb); clear HO_7; clear HB; have HO_7 := n0_; have HB := n1_; clear n0_ n1_; (try clear hb); (try clear hb2); (try clear hk); (try clear hi)))
            go_roundg k1
            case measure => have := HK1.out; omega
            case rel => exact ⟨(x7_1), (wrap64 (x8_1 + 1)), (by first | rfl | (simp; done) | (simp [*]; done) | exact congrArg (fun b => Ending.returned (Value.bool b)) (Ch.bne_nil _)), H', ⟨by have := HK1.out; omega⟩, ⟨by (with_reducible repeat (first | apply Kd.S_alloc | apply Kd.S_drewN | apply Kd.S_drew)); exact HO_7.out⟩, ⟨by repeat (first | (with_reducible first | exact HB.out | apply below_alloc | apply pw_below_drewN | apply below_drew1) | exact HB.out)⟩⟩
          · rw [if_neg c10] at H
            have c10b0 : (x8_1 == 9) = false := beq_eq_false_iff_ne.mpr c10
            have c10b1 : (x8_1 != 9) = true := bne_iff_ne.mpr c10
            by_cases c13 : x8_1 = 19
            · rw [if_pos c13] at H
              have c13b0 : (x8_1 == 19) = true := beq_iff_eq.mpr c13
              have c13b1 : (x8_1 != 19) = false := bne_eq_false_iff_eq.mpr c13
              clear c13
              have H' := Aside0.mk H
              clear H
              go_wp2_with (first | ((with_reducible refine gate_callee (f := 39) rfl ?_); refine goesL_ (some 17) rfl rfl Tryd.func39 (by kernel_rfl) rfl #[.slice A1 l1.length c1, .int .i64 x8_1, .bool a2] rfl (by (try simp only [List.map_toArray, List.map_cons, List.map_nil]); first | done | rfl | (simp only [List.length_drop, List.length_take]; rfl)) ?_; (with_reducible refine (trap_disposition.calls k1 _ _ l1 x8_1 a2 t113 _ ?side1 ?side2 A5.out).mono ?_); (case side1 => repeat (first | exact (Kd.C_below HR1.out HB.out) | (with_reducible refine Kd.C_alloc ?_ _) | (with_reducible refine Kd.C_drewN ?_ _) | (with_reducible refine Kd.C_drew ?_))); (case side2 => exact HC1.out); rintro e w14 ⟨rfl, hb⟩; refine ⟨_, rfl, ?_⟩; have n0_ := Aside0.mk (Kd.S_below (by (with_reducible repeat (first | apply Kd.S_alloc | apply Kd.S_drewN | apply Kd.S_drew)); exact HO_7.out) hb); have n1_ := Aside0.mk (below_step (by repeat (first | (with_reducible first | exact HB.out | apply below_alloc | apply pw_below_drewN | apply below_drew1) | exact HB.out)) hb); clear HO_7; clear HB; have HO_7 := n0_; have HB := n1_; clear n0_ n1_; (try clear hb); (try clear hb2); (try clear hk); (try clear hi)) | ((with_reducible refine gate_callee (f := 33) rfl ?_); refine goesL_ (some 19) rfl rfl Tryd.func33 (by kernel_rfl) rfl #[.int .i64 x8_1] rfl (by (try simp only [List.map_toArray, List.map_cons, List.map_nil]); first | done | rfl | (simp only [List.length_drop, List.length_take]; rfl)) ?_; (with_reducible refine (signal_Name.calls x8_1 t114 _ A6.out).mono ?_); rintro e w15 ⟨rfl, hb⟩; refine ⟨_, rfl, ?_⟩; have n0_ := Aside0.mk (Kd.S_below (by (with_reducible repeat (first | apply Kd.S_alloc | apply Kd.S_drewN | apply Kd.S_drew)); exact HO_7.out) hb); have n1_ := Aside0.mk (below_step (by repeat (first | (with_reducible first | exact HB.out | apply below_alloc | apply pw_below_drewN | apply below_drew1) | exact HB.out)) hb); clear HO_7; clear HB; have HO_7 := n0_; have HB := n1_; clear n0_ n1_; (try clear hb); (try clear hb2); (try clear hk); (try clear hi)))
              go_roundg k1
              case measure => have := HK1.out; omega
              case rel => exact ⟨(x7_1), (wrap64 (x8_1 + 1)), (by first | rfl | (simp; done) | (simp [*]; done) | exact congrArg (fun b => Ending.returned (Value.bool b)) (Ch.bne_nil _)), H', ⟨by have := HK1.out; omega⟩, ⟨by (with_reducible repeat (first | apply Kd.S_alloc | apply Kd.S_drewN | apply Kd.S_drew)); exact HO_7.out⟩, ⟨by repeat (first | (with_reducible first | exact HB.out | apply below_alloc | apply pw_below_drewN | apply below_drew1) | exact HB.out)⟩⟩
            · rw [if_neg c13] at H
              have c13b0 : (x8_1 == 19) = false := beq_eq_false_iff_ne.mpr c13
              have c13b1 : (x8_1 != 19) = true := bne_iff_ne.mpr c13
              replace H := Option.bind_eq_some_iff.mp H
              obtain ⟨t115, A160, H⟩ := H
              replace H : (if t113 = t115 then (trap_Requests.l0 k1 l0 l1 a2 x7_1 (wrap64 (x8_1 + 1))) else (if x7_1.length < 977343669134 then (trap_Requests.l0 k1 l0 l1 a2 (x7_1 ++ [(⟨14, 0, 0, 0, 0, x8_1, t113, 0, (⟨#[]⟩ : ByteArray), (⟨#[]⟩ : ByteArray), ([] : List ByteArray), ([] : List ByteArray)⟩ : S40)]) (wrap64 (x8_1 + 1))) else (none))) = some r := H
              have A16 := Aside0.mk A160
              clear A160
              by_cases c17 : t113 = t115
              · rw [if_pos c17] at H
                have c17b0 : (t113 == t115) = true := beq_iff_eq.mpr c17
                have c17b1 : (t113 != t115) = false := bne_eq_false_iff_eq.mpr c17
                clear c17
                have H' := Aside0.mk H
                clear H
                go_wp2_with (first | ((with_reducible refine gate_callee (f := 39) rfl ?_); refine goesL_ (some 17) rfl rfl Tryd.func39 (by kernel_rfl) rfl #[.slice A1 l1.length c1, .int .i64 x8_1, .bool a2] rfl (by (try simp only [List.map_toArray, List.map_cons, List.map_nil]); first | done | rfl | (simp only [List.length_drop, List.length_take]; rfl)) ?_; (with_reducible refine (trap_disposition.calls k1 _ _ l1 x8_1 a2 t113 _ ?side1 ?side2 A5.out).mono ?_); (case side1 => repeat (first | exact (Kd.C_below HR1.out HB.out) | (with_reducible refine Kd.C_alloc ?_ _) | (with_reducible refine Kd.C_drewN ?_ _) | (with_reducible refine Kd.C_drew ?_))); (case side2 => exact HC1.out); rintro e w18 ⟨rfl, hb⟩; refine ⟨_, rfl, ?_⟩; have n0_ := Aside0.mk (Kd.S_below (by (with_reducible repeat (first | apply Kd.S_alloc | apply Kd.S_drewN | apply Kd.S_drew)); exact HO_7.out) hb); have n1_ := Aside0.mk (below_step (by repeat (first | (with_reducible first | exact HB.out | apply below_alloc | apply pw_below_drewN | apply below_drew1) | exact HB.out)) hb); clear HO_7; clear HB; have HO_7 := n0_; have HB := n1_; clear n0_ n1_; (try clear hb); (try clear hb2); (try clear hk); (try clear hi)) | ((with_reducible refine gate_callee (f := 33) rfl ?_); refine goesL_ (some 19) rfl rfl Tryd.func33 (by kernel_rfl) rfl #[.int .i64 x8_1] rfl (by (try simp only [List.map_toArray, List.map_cons, List.map_nil]); first | done | rfl | (simp only [List.length_drop, List.length_take]; rfl)) ?_; (with_reducible refine (signal_Name.calls x8_1 t114 _ A6.out).mono ?_); rintro e w19 ⟨rfl, hb⟩; refine ⟨_, rfl, ?_⟩; have n0_ := Aside0.mk (Kd.S_below (by (with_reducible repeat (first | apply Kd.S_alloc | apply Kd.S_drewN | apply Kd.S_drew)); exact HO_7.out) hb); have n1_ := Aside0.mk (below_step (by repeat (first | (with_reducible first | exact HB.out | apply below_alloc | apply pw_below_drewN | apply below_drew1) | exact HB.out)) hb); clear HO_7; clear HB; have HO_7 := n0_; have HB := n1_; clear n0_ n1_; (try clear hb); (try clear hb2); (try clear hk); (try clear hi)) | (go_at_call 39; (with_reducible refine (trap_disposition.calls k1 _ _ l0 x8_1 a2 t115 _ ?side1 ?side2 A16.out).mono ?_); (case side1 => repeat (first | exact (Kd.C_below HR0.out HB.out) | (with_reducible refine Kd.C_alloc ?_ _) | (with_reducible refine Kd.C_drewN ?_ _) | (with_reducible refine Kd.C_drew ?_))); (case side2 => exact HC0.out); rintro e w20 ⟨rfl, hb⟩; have n0_ := Aside0.mk (Kd.S_below (by (with_reducible repeat (first | apply Kd.S_alloc | apply Kd.S_drewN | apply Kd.S_drew)); exact HO_7.out) hb); have n1_ := Aside0.mk (below_step (by repeat (first | (with_reducible first | exact HB.out | apply below_alloc | apply pw_below_drewN | apply below_drew1) | exact HB.out)) hb); clear HO_7; clear HB; have HO_7 := n0_; have HB := n1_; clear n0_ n1_; (try clear hb); (try clear hb2); (try clear hk); (try clear hi)))
                go_roundg k1
                case measure => have := HK1.out; omega
                case rel => exact ⟨(x7_1), (wrap64 (x8_1 + 1)), (by first | rfl | (simp; done) | (simp [*]; done) | exact congrArg (fun b => Ending.returned (Value.bool b)) (Ch.bne_nil _)), H', ⟨by have := HK1.out; omega⟩, ⟨by (with_reducible repeat (first | apply Kd.S_alloc | apply Kd.S_drewN | apply Kd.S_drew)); exact HO_7.out⟩, ⟨by repeat (first | (with_reducible first | exact HB.out | apply below_alloc | apply pw_below_drewN | apply below_drew1) | exact HB.out)⟩⟩
              · rw [if_neg c17] at H
                have c17b0 : (t113 == t115) = false := beq_eq_false_iff_ne.mpr c17
                have c17b1 : (t113 != t115) = true := bne_iff_ne.mpr c17
                by_cases c21 : x7_1.length < 977343669134
                · rw [if_pos c21] at H
                  have LMc21 := Aside0.mk c21
                  clear c21
                  obtain ⟨y116, hy116⟩ : ∃ y_ : List (S40), y_ = (x7_1 ++ [(⟨14, 0, 0, 0, 0, x8_1, t113, 0, (⟨#[]⟩ : ByteArray), (⟨#[]⟩ : ByteArray), ([] : List ByteArray), ([] : List ByteArray)⟩ : S40)]) := ⟨_, rfl⟩
                  replace H : (trap_Requests.l0 k1 l0 l1 a2 y116 (wrap64 (x8_1 + 1))) = some r := by first | (rw [hy116]; with_reducible exact H) | (have H2_ := (Option.bind_some _ _).symm.trans H; rw [hy116]; with_reducible exact H2_) | (have H2_ := (Option.bind_some _ _).symm.trans H; with_reducible exact H2_) | with_reducible exact H | (rw [hy116]; exact H) | exact H
                  have Ny116 := Aside0.mk hy116
                  clear hy116
                  have H' := Aside0.mk H
                  clear H
                  go_wp2_with (first | ((with_reducible refine gate_callee (f := 39) rfl ?_); refine goesL_ (some 17) rfl rfl Tryd.func39 (by kernel_rfl) rfl #[.slice A1 l1.length c1, .int .i64 x8_1, .bool a2] rfl (by (try simp only [List.map_toArray, List.map_cons, List.map_nil]); first | done | rfl | (simp only [List.length_drop, List.length_take]; rfl)) ?_; (with_reducible refine (trap_disposition.calls k1 _ _ l1 x8_1 a2 t113 _ ?side1 ?side2 A5.out).mono ?_); (case side1 => repeat (first | exact (Kd.C_below HR1.out HB.out) | (with_reducible refine Kd.C_alloc ?_ _) | (with_reducible refine Kd.C_drewN ?_ _) | (with_reducible refine Kd.C_drew ?_))); (case side2 => exact HC1.out); rintro e w22 ⟨rfl, hb⟩; refine ⟨_, rfl, ?_⟩; have n0_ := Aside0.mk (Kd.S_below (by (with_reducible repeat (first | apply Kd.S_alloc | apply Kd.S_drewN | apply Kd.S_drew)); exact HO_7.out) hb); have n1_ := Aside0.mk (below_step (by repeat (first | (with_reducible first | exact HB.out | apply below_alloc | apply pw_below_drewN | apply below_drew1) | exact HB.out)) hb); clear HO_7; clear HB; have HO_7 := n0_; have HB := n1_; clear n0_ n1_; (try clear hb); (try clear hb2); (try clear hk); (try clear hi)) | ((with_reducible refine gate_callee (f := 33) rfl ?_); refine goesL_ (some 19) rfl rfl Tryd.func33 (by kernel_rfl) rfl #[.int .i64 x8_1] rfl (by (try simp only [List.map_toArray, List.map_cons, List.map_nil]); first | done | rfl | (simp only [List.length_drop, List.length_take]; rfl)) ?_; (with_reducible refine (signal_Name.calls x8_1 t114 _ A6.out).mono ?_); rintro e w23 ⟨rfl, hb⟩; refine ⟨_, rfl, ?_⟩; have n0_ := Aside0.mk (Kd.S_below (by (with_reducible repeat (first | apply Kd.S_alloc | apply Kd.S_drewN | apply Kd.S_drew)); exact HO_7.out) hb); have n1_ := Aside0.mk (below_step (by repeat (first | (with_reducible first | exact HB.out | apply below_alloc | apply pw_below_drewN | apply below_drew1) | exact HB.out)) hb); clear HO_7; clear HB; have HO_7 := n0_; have HB := n1_; clear n0_ n1_; (try clear hb); (try clear hb2); (try clear hk); (try clear hi)) | (go_at_call 39; (with_reducible refine (trap_disposition.calls k1 _ _ l0 x8_1 a2 t115 _ ?side1 ?side2 A16.out).mono ?_); (case side1 => repeat (first | exact (Kd.C_below HR0.out HB.out) | (with_reducible refine Kd.C_alloc ?_ _) | (with_reducible refine Kd.C_drewN ?_ _) | (with_reducible refine Kd.C_drew ?_))); (case side2 => exact HC0.out); rintro e w24 ⟨rfl, hb⟩; have n0_ := Aside0.mk (Kd.S_below (by (with_reducible repeat (first | apply Kd.S_alloc | apply Kd.S_drewN | apply Kd.S_drew)); exact HO_7.out) hb); have n1_ := Aside0.mk (below_step (by repeat (first | (with_reducible first | exact HB.out | apply below_alloc | apply pw_below_drewN | apply below_drew1) | exact HB.out)) hb); clear HO_7; clear HB; have HO_7 := n0_; have HB := n1_; clear n0_ n1_; (try clear hb); (try clear hb2); (try clear hk); (try clear hi)) | ((with_reducible refine gate_builtin (b := .append) (xs := #[.tmp 37, .tmp 41]) rfl ?_); at_builtin; refine Kd.S_append k40 (w0 := w) w.heap.size rfl (.tmp 37) (.tmp 41) 35 40 (.agg #[(.int .i64 0), (.int .i64 0), (.int .i64 0), (.int .i64 0), (.int .i64 0), (.int .i64 0), (.int .i64 0), (.int .i64 0), (.string ⟨#[]⟩), (.string ⟨#[]⟩), (.slice none 0 0), (.slice none 0 0)]) 144 rfl Tryd.underlying35 info40 rfl (by decide) (by omega) u7 x7_1 (⟨14, 0, 0, 0, 0, x8_1, t113, 0, (⟨#[]⟩ : ByteArray), (⟨#[]⟩ : ByteArray), ([] : List ByteArray), ([] : List ByteArray)⟩ : S40) [.int .i64 14, .int .i64 0, .int .i64 0, .int .i64 0, .int .i64 0, .int .i64 x8_1, .int .i64 t113, .int .i64 0, .string (⟨#[]⟩ : ByteArray), .string (⟨#[]⟩ : ByteArray), .slice none 0 0, .slice none 0 0] (fun _ => True) (fun _ => False) rfl rfl ?aP (fun k_ hk_ => hk_.elim) ?aF ?aO ?aB ?aS ?aL ?_; (case aP => exact k40_mkM _ _ _ (⟨14, 0, 0, 0, 0, x8_1, t113, 0, (⟨#[]⟩ : ByteArray), (⟨#[]⟩ : ByteArray), ([] : List ByteArray), ([] : List ByteArray)⟩ : S40) (Kd.R_nil _ _ _ _ _) (Kd.R_nil _ _ _ _ _)); (case aB => exact (by repeat (first | (with_reducible first | exact HB.out | apply below_alloc | apply pw_below_drewN | apply below_drew1) | exact HB.out))); (case aF => exact (fun _ _ => trivial)); (case aO => exact (by (with_reducible repeat (first | apply Kd.S_alloc | apply Kd.S_drewN | apply Kd.S_drew)); exact Kd.S_mono HO_7.out (fun k_ hk => ⟨trivial, fun e_ => e_⟩))); (case aS => exact (below_size (by repeat (first | (with_reducible first | exact HB.out | apply below_alloc | apply pw_below_drewN | apply below_drew1) | exact HB.out)))); (case aL => have := LMc21.out; omega); intro v117 w25 ho hb hg hat; rw [← Ny116.out] at ho; have n0_ := Aside0.mk (hb); have n1_ := Aside0.mk (ho); clear HB; clear HO_7; have HB := n0_; have HO118 := n1_; clear n0_ n1_; clear ho hb hg hat))
                  go_roundg k1
                  case measure => have := HK1.out; omega
                  case rel => exact ⟨(y116), (wrap64 (x8_1 + 1)), (by first | rfl | (simp; done) | (simp [*]; done) | exact congrArg (fun b => Ending.returned (Value.bool b)) (Ch.bne_nil _)), H', ⟨by have := HK1.out; omega⟩, ⟨by (with_reducible repeat (first | apply Kd.S_alloc | apply Kd.S_drewN | apply Kd.S_drew)); exact HO118.out⟩, ⟨by repeat (first | (with_reducible first | exact HB.out | apply below_alloc | apply pw_below_drewN | apply below_drew1) | exact HB.out)⟩⟩
                · rw [if_neg c21] at H
                  exact absurd H (by simp)
      · rw [if_neg c4] at H
        have c4b0 : decide (x8_1 ≤ 20) = false := decide_eq_false c4
        clear c4
        obtain rfl := Option.some.inj H
        go_wp2
        go_ret
        exact ⟨_, by first | rfl | (simp [errW_none, errW_some] <;> rfl) | (simp [*, errW_none, errW_some] <;> rfl), by (with_reducible repeat (first | apply Kd.S_alloc | apply Kd.S_drewN | apply Kd.S_drew)); exact HO_7.out, by repeat (first | (with_reducible first | exact HB.out | apply below_alloc | apply pw_below_drewN | apply below_drew1) | exact HB.out)⟩

end Go.Proofs.YtphgcpoefpogfaaDoor.PS
