-- Written by a program of this session (wip/mk.py) over the kit's print: Lean checks it.
import Derived.Test.YtacpjifbgnlppaaQFnExactNewReplicax0
import Derived.Test.YtacpjifbgnlppaaQFnExactNewReplicax1
namespace Go.Proofs.Ytacpjifbgnlppaa.QFnExactNewReplica
open Go.RowKit Go.Proofs.YtacpjifbgnlppaaW.PrintWords Go.Proofs.YtacpjifbgnlppaaW.PrintLast Go.Proofs.YtacpjifbgnlppaaW.PrintMore
attribute [local go_sem] max2_int min2_int max_two min_two max_three min_three max_four min_four   -- for this text's walks alone
set_option linter.unusedVariables false
set_option linter.unusedSimpArgs false

/-! ### laws_markReplica: function 36 -/
def laws_markReplica.f (k : Nat) (a0_0 : Int) (a0_1 : Int) (l0_2 : List (List (S72))) (l0_3 : List (S93)) (a1 : Int) : Option (Int) := (laws_markTable.f k a0_1 l0_2 a1).bind fun t147 => ((laws_markLeadS.f l0_3 t147).bind fun t148 => (some t148))
theorem laws_markReplica.mono : ∀ a0 a1 a2 a3 a4 k, LeO (laws_markReplica.f k a0 a1 a2 a3 a4) (laws_markReplica.f (k + 1) a0 a1 a2 a3 a4) := by
  intro a0 a1 a2 a3 a4 k
  unfold laws_markReplica.f
  repeat' first
      | (with_reducible exact laws_markTable.mono _ _ _ _)
      | (with_reducible exact LeO.refl _)
      | (with_reducible exact LeO.none _)
      | (with_reducible refine LeO.ite ?_ ?_)
      | (with_reducible refine LeO.bind ?_ (fun _ => ?_))
      | exact laws_markTable.mono _ _ _ _
      | exact LeO.none _
      | refine LeO.ite ?_ ?_
      | refine LeO.bind ?_ (fun _ => ?_)
set_option maxHeartbeats 8000000 in
set_option maxRecDepth 100000 in
theorem laws_markReplica.calls (k : Nat) (a0_0 : Int) (a0_1 : Int) (A0_2 : Option Addr) (c0_2 : Nat) (l0_2 : List (List (S72))) (A0_3 : Option Addr) (c0_3 : Nat) (l0_3 : List (S93)) (a1 : Int) (r : Int) (w : World) (hr0_2 : Kd.C (Kd.slice 72 k72) w A0_2 l0_2.length l0_2) (hc0_2 : l0_2.length ≤ c0_2) (hr0_3 : Kd.C k93 w A0_3 l0_3.length l0_3) (hc0_3 : l0_3.length ≤ c0_3) (h : laws_markReplica.f k a0_0 a0_1 l0_2 l0_3 a1 = some r) :
    Calls Try.prog 36 #[.agg #[.int .i64 a0_0, .int .i64 a0_1, .slice A0_2 l0_2.length c0_2, .slice A0_3 l0_3.length c0_3], .int .i64 a1] w fun e w' => e = .returned (.int .i64 r) ∧ Below w.heap.size w w' := by
  have hu61 := Try.underlying61
  have hu29 := Try.underlying29
  have HR0_2 := Aside0.mk hr0_2
  have HC0_2 := Aside0.mk hc0_2
  clear hr0_2 hc0_2
  have HR0_3 := Aside0.mk hr0_3
  have HC0_3 := Aside0.mk hc0_3
  clear hr0_3 hc0_3
  have HB := Aside0.mk (Below.refl w.heap.size w)
  have H : ((laws_markTable.f k a0_1 l0_2 a1).bind fun t147 => ((laws_markLeadS.f l0_3 t147).bind fun t148 => (some t148))) = some r := h
  clear h
  replace H := Option.bind_eq_some_iff.mp H
  obtain ⟨t147, A30, H⟩ := H
  replace H : ((laws_markLeadS.f l0_3 t147).bind fun t148 => (some t148)) = some r := H
  have A3 := Aside0.mk A30
  clear A30
  replace H := Option.bind_eq_some_iff.mp H
  obtain ⟨t148, A40, H⟩ := H
  replace H : (some t148) = some r := H
  have A4 := Aside0.mk A40
  clear A40
  obtain rfl := Option.some.inj H
  go_enter Try.func36, Try.ntmps36
  go_wp2_with (first | ((with_reducible refine gate_dst (N := 2) rfl ?_); refine box_event ?hg (N := 2) ?hd (cs := #[.int .i64 a0_0, .int .i64 a0_1, .slice A0_2 l0_2.length c0_2, .slice A0_3 l0_3.length c0_3]) (t := 61) ?hr ?_; (case hd => rfl); (case hg => rfl); (case hr => first | (go_simp; done) | (go_simp; rfl)); intro gb146 hg w5 hbox hb; have n0_ := Aside0.mk (below_step (by repeat (first | (with_reducible first | exact HB.out | apply below_alloc | apply pw_below_drewN | apply below_drew1) | exact HB.out)) hb); have n1_ := Aside0.mk (hbox); have n2_ := Aside0.mk ((by rw [hg]; exact (below_size (by repeat (first | (with_reducible first | exact HB.out | apply below_alloc | apply pw_below_drewN | apply below_drew1) | exact HB.out))) : w.heap.size ≤ gb146)); have n3_ := Aside0.mk ((by rw [hg]; exact (below_size (by repeat (first | (with_reducible first | exact HB.out | apply below_alloc | apply pw_below_drewN | apply below_drew1) | exact HB.out))) : w.heap.size ≤ gb146)); clear HB; have HB := n0_; have BK146 := n1_; have GW146 := n2_; have GE146 := n3_; clear n0_ n1_ n2_ n3_; clear hb hbox hg; have hcz6_0 : w5.cell? ⟨gb146, 0, none⟩ = some (.int .i64 a0_0) := (blk_cell BK146.out 0).trans rfl; have hcz6_1 : w5.cell? ⟨gb146, 1, none⟩ = some (.int .i64 a0_1) := (blk_cell BK146.out 1).trans rfl; have hcz6_2 : w5.cell? ⟨gb146, 2, none⟩ = some (.slice A0_2 l0_2.length c0_2) := (blk_cell BK146.out 2).trans rfl; have hcz6_3 : w5.cell? ⟨gb146, 3, none⟩ = some (.slice A0_3 l0_3.length c0_3) := (blk_cell BK146.out 3).trans rfl; have hfz6_0 := blk_frozen BK146.out 0; have hfz6_1 := blk_frozen BK146.out 1; have hfz6_2 := blk_frozen BK146.out 2; have hfz6_3 := blk_frozen BK146.out 3) | ((with_reducible refine gate_callee (f := 16) rfl ?_); refine goesL_ (some 8) rfl rfl Try.func16 (by kernel_rfl) rfl #[.agg #[.int .i64 a0_1, .slice A0_2 l0_2.length c0_2], .int .i64 a1] rfl (by (try simp only [List.map_toArray, List.map_cons, List.map_nil]); first | done | rfl | (simp only [List.length_drop, List.length_take]; rfl)) ?_; (with_reducible refine (laws_markTable.calls k a0_1 _ _ l0_2 a1 t147 _ ?side1 ?side2 A3.out).mono ?_); (case side1 => repeat (first | exact (Kd.C_below HR0_2.out HB.out) | (with_reducible refine Kd.C_alloc ?_ _) | (with_reducible refine Kd.C_drewN ?_ _) | (with_reducible refine Kd.C_drew ?_))); (case side2 => exact HC0_2.out); rintro e w7 ⟨rfl, hb⟩; refine ⟨_, rfl, ?_⟩; have n0_ := Aside0.mk (blk_below (g := gb146) (o := .cells #[.int .i64 a0_0, .int .i64 a0_1, .slice A0_2 l0_2.length c0_2, .slice A0_3 l0_3.length c0_3] 61 (0, 0)) (by (with_reducible repeat (first | refine blk_drewN ?_ _ | refine blk_drew ?_ | refine blk_alloc ?_ _)); exact BK146.out) hb); have n1_ := Aside0.mk (below_step (by repeat (first | (with_reducible first | exact HB.out | apply below_alloc | apply pw_below_drewN | apply below_drew1 | refine below_set ?_ GE146.out) | exact HB.out)) hb); clear BK146; clear HB; have BK146 := n0_; have HB := n1_; clear n0_ n1_; (try clear hb); (try clear hb2); (try clear hk); (try clear hi); have hcz8_0 : w7.cell? ⟨gb146, 0, none⟩ = some (.int .i64 a0_0) := (blk_cell BK146.out 0).trans rfl; have hcz8_1 : w7.cell? ⟨gb146, 1, none⟩ = some (.int .i64 a0_1) := (blk_cell BK146.out 1).trans rfl; have hcz8_2 : w7.cell? ⟨gb146, 2, none⟩ = some (.slice A0_2 l0_2.length c0_2) := (blk_cell BK146.out 2).trans rfl; have hcz8_3 : w7.cell? ⟨gb146, 3, none⟩ = some (.slice A0_3 l0_3.length c0_3) := (blk_cell BK146.out 3).trans rfl; have hfz8_0 := blk_frozen BK146.out 0; have hfz8_1 := blk_frozen BK146.out 1; have hfz8_2 := blk_frozen BK146.out 2; have hfz8_3 := blk_frozen BK146.out 3) | ((with_reducible refine gate_callee (f := 73) rfl ?_); refine goesL_ (some 12) rfl rfl Try.func73 (by kernel_rfl) rfl #[.slice A0_3 l0_3.length c0_3, .int .i64 t147] rfl (by (try simp only [List.map_toArray, List.map_cons, List.map_nil]); first | done | rfl | (simp only [List.length_drop, List.length_take]; rfl)) ?_; (with_reducible refine (laws_markLeadS.calls _ _ l0_3 t147 t148 _ ?side1 ?side2 A4.out).mono ?_); (case side1 => repeat (first | exact (Kd.C_below HR0_3.out HB.out) | (with_reducible refine Kd.C_alloc ?_ _) | (with_reducible refine Kd.C_drewN ?_ _) | (with_reducible refine Kd.C_drew ?_))); (case side2 => exact HC0_3.out); rintro e w' ⟨rfl, ⟨nd, rfl⟩⟩; refine ⟨_, rfl, ?_⟩))
  go_ret
  exact ⟨by first | rfl | (simp [errW_none, errW_some] <;> rfl) | (simp [*, errW_none, errW_some] <;> rfl), by repeat (first | (with_reducible first | exact HB.out | apply below_alloc | apply pw_below_drewN | apply below_drew1 | refine below_set ?_ GE146.out) | exact HB.out)⟩

/-! ### laws_heldRowS: function 87 -/
def laws_heldRowS.f (l0 : List S72) (a1 : Int) : Option Int := if l0.length = 0 then some a1 else none
set_option maxHeartbeats 2000000 in
set_option maxRecDepth 100000 in
theorem laws_heldRowS.calls (A0 : Option Addr) (c0 : Nat) (l0 : List S72) (a1 : Int) (r : Int) (w : World) (hr0 : Kd.C k72 w A0 l0.length l0) (hc0 : l0.length ≤ c0) (h : laws_heldRowS.f l0 a1 = some r) :
    Calls Try.prog 87 #[.slice A0 l0.length c0, .int .i64 a1] w fun e w' => e = .returned (.int .i64 r) ∧ Drawn0 w w' := by
  unfold laws_heldRowS.f at h
  by_cases hl : l0.length = 0
  · rw [if_pos hl] at h
    obtain rfl : a1 = r := Option.some.inj h
    rw [hl]
    clear h hr0 hc0 hl
    go_enter Try.func87, Try.ntmps87
    go_wp2
    go_loopg [1, 5] 0 (fun gg s1 s5 wr => s1 = .int .i64 a1 ∧ s5 = .int .i64 0 ∧ Drawn0 w wr)
    case atStart => exact ⟨rfl, rfl, by repeat (first | exact Drawn0.refl _ | apply Drawn0.step)⟩
    case round =>
      obtain ⟨rfl, rfl, m1, rfl⟩ := hrel
      go_wp2
      go_ret
      exact ⟨rfl, by repeat (first | exact Drawn0.refl _ | apply Drawn0.step)⟩
  · rw [if_neg hl] at h
    cases h

/-! ### laws_heldRowSS: function 52 -/
def laws_heldRowSS.l0 : Nat → List (List (S72)) → Int → Int → Option (Int)
  | 0, _, _, _ => none
  | k + 1, x0, x1, x5 => if x5 < (x0.length : Int) then (if 0 ≤ x5 then ((laws_heldRowS.f (rd_L5 x0 x5) x1).bind fun t150 => (if t150 < 0 then (some (-1)) else (laws_heldRowSS.l0 k x0 t150 (wrap64 (x5 + 1))))) else (none)) else (some x1)
def laws_heldRowSS.f (k : Nat) (l0 : List (List (S72))) (a1 : Int) : Option (Int) := laws_heldRowSS.l0 k l0 a1 0
theorem laws_heldRowSS.mono_l : ∀ k, (∀ y0 y1 y2, LeO (laws_heldRowSS.l0 k y0 y1 y2) (laws_heldRowSS.l0 (k + 1) y0 y1 y2))
  | 0 => fun _ _ _ r h => by simp [laws_heldRowSS.l0] at h
  | k + 1 => by
    have ih0 := laws_heldRowSS.mono_l k
    · intro y0 y1 y2
      unfold laws_heldRowSS.l0
      repeat' first
      | (with_reducible exact ih0 _ _ _)
      | (with_reducible exact LeO.refl _)
      | (with_reducible exact LeO.none _)
      | (with_reducible refine LeO.ite ?_ ?_)
      | (with_reducible refine LeO.bind ?_ (fun _ => ?_))
      | exact ih0 _ _ _
      | exact LeO.none _
      | refine LeO.ite ?_ ?_
      | refine LeO.bind ?_ (fun _ => ?_)
theorem laws_heldRowSS.mono : ∀ a0 a1 k, LeO (laws_heldRowSS.f k a0 a1) (laws_heldRowSS.f (k + 1) a0 a1) := by
  intro a0 a1 k
  have ih0 := laws_heldRowSS.mono_l k
  unfold laws_heldRowSS.f
  repeat' first
      | (with_reducible exact ih0 _ _ _)
      | (with_reducible exact LeO.refl _)
      | (with_reducible exact LeO.none _)
      | (with_reducible refine LeO.ite ?_ ?_)
      | (with_reducible refine LeO.bind ?_ (fun _ => ?_))
      | exact ih0 _ _ _
      | exact LeO.none _
      | refine LeO.ite ?_ ?_
      | refine LeO.bind ?_ (fun _ => ?_)
set_option maxHeartbeats 8000000 in
set_option maxRecDepth 100000 in
theorem laws_heldRowSS.calls (k : Nat) (A0 : Option Addr) (c0 : Nat) (l0 : List (List (S72))) (a1 : Int) (r : Int) (w : World) (hr0 : Kd.C (Kd.slice 72 k72) w A0 l0.length l0) (hc0 : l0.length ≤ c0) (h : laws_heldRowSS.f k l0 a1 = some r) :
    Calls Try.prog 52 #[.slice A0 l0.length c0, .int .i64 a1] w fun e w' => e = .returned (.int .i64 r) ∧ Drawn0 w w' := by
  have HR0 := Aside0.mk hr0
  have HC0 := Aside0.mk hc0
  clear hr0 hc0
  have H : (laws_heldRowSS.l0 k l0 a1 0) = some r := h
  clear h
  have H' := Aside0.mk H
  clear H
  go_enter Try.func52, Try.ntmps52
  go_wp2
  go_loopg [1, 5] k (fun kq v1 v5 w' => ∃ (x1_1 : Int) (x5_1 : Int), v1 = .int .i64 x1_1 ∧ v5 = .int .i64 x5_1 ∧ Aside0 (laws_heldRowSS.l0 kq l0 x1_1 x5_1 = some r) ∧ Aside0 (kq ≤ k) ∧ Drawn0 w w')
  case atStart => exact ⟨(a1), (0), (by first | rfl | (simp; done) | (simp [*]; done)), (by first | rfl | (simp; done) | (simp [*]; done)), H', ⟨Nat.le_refl _⟩, by repeat (first | exact Drawn0.refl _ | apply Drawn0.step)⟩
  case round =>
    clear H'
    try clear p2
    obtain ⟨x1_1, x5_1, rfl, rfl, HA, HK1, ⟨m1, rfl⟩⟩ := hrel
    cases gk with
    | zero => exact absurd HA.out (by simp [laws_heldRowSS.l0])
    | succ k1 =>
      have H := HA.out
      clear HA
      simp only [laws_heldRowSS.l0] at H
      by_cases c3 : x5_1 < (l0.length : Int)
      · rw [if_pos c3] at H
        have c3b0 : decide (x5_1 < (l0.length : Int)) = true := decide_eq_true c3
        clear c3
        by_cases c4 : 0 ≤ x5_1
        · rw [if_pos c4] at H
          have c4b0 : decide (0 ≤ x5_1) = true := decide_eq_true c4
          clear c4
          replace H := Option.bind_eq_some_iff.mp H
          obtain ⟨t150, A50, H⟩ := H
          replace H : (if t150 < 0 then (some (-1)) else (laws_heldRowSS.l0 k1 l0 t150 (wrap64 (x5_1 + 1)))) = some r := H
          have A5 := Aside0.mk A50
          clear A50
          by_cases c6 : t150 < 0
          · rw [if_pos c6] at H
            have c6b0 : decide (t150 < 0) = true := decide_eq_true c6
            clear c6
            obtain rfl := Option.some.inj H
            have p149 : 0 ≤ (x5_1 : Int) := of_decide_eq_true (by first | (with_reducible assumption) | assumption)
            have q149 : x5_1 < (l0.length : Int) := of_decide_eq_true (by first | (with_reducible assumption) | assumption)
            obtain ⟨ad149, A149_0, c149_0, e149, hx149_0, hl149_0, hi149_0⟩ := at_L5 HR0.out x5_1 p149 q149
            cases e149
            have HR149_0 := Aside0.mk hi149_0
            have HC149_0 := Aside0.mk hl149_0
            clear hi149_0 hl149_0
            replace p149 := eq_true p149
            replace q149 := eq_true q149
            go_wp2_with (first | ((with_reducible refine gate_callee (f := 87) rfl ?_); refine goesL_ (some 17) rfl rfl Try.func87 (by kernel_rfl) rfl #[.slice A149_0 (rd_L5 l0 x5_1).length c149_0, .int .i64 x1_1] rfl (by (try simp only [List.map_toArray, List.map_cons, List.map_nil]); first | done | rfl | (simp only [List.length_drop, List.length_take]; rfl)) ?_; (with_reducible refine (laws_heldRowS.calls _ _ (rd_L5 l0 x5_1) x1_1 t150 _ ?side1 ?side2 A5.out).mono ?_); (case side1 => repeat (first | exact HR149_0.out | (with_reducible refine Kd.C_alloc ?_ _) | (with_reducible refine Kd.C_drewN ?_ _) | (with_reducible refine Kd.C_drew ?_))); (case side2 => exact HC149_0.out); rintro e w' ⟨rfl, ⟨nd, rfl⟩⟩; refine ⟨_, rfl, ?_⟩))
            go_ret
            exact ⟨by first | rfl | (simp; done) | (simp [*]; done), by repeat (first | exact Drawn0.refl _ | apply Drawn0.step)⟩
          · rw [if_neg c6] at H
            have c6b0 : decide (t150 < 0) = false := decide_eq_false c6
            clear c6
            have H' := Aside0.mk H
            clear H
            have p149 : 0 ≤ (x5_1 : Int) := of_decide_eq_true (by first | (with_reducible assumption) | assumption)
            have q149 : x5_1 < (l0.length : Int) := of_decide_eq_true (by first | (with_reducible assumption) | assumption)
            obtain ⟨ad149, A149_0, c149_0, e149, hx149_0, hl149_0, hi149_0⟩ := at_L5 HR0.out x5_1 p149 q149
            cases e149
            have HR149_0 := Aside0.mk hi149_0
            have HC149_0 := Aside0.mk hl149_0
            clear hi149_0 hl149_0
            replace p149 := eq_true p149
            replace q149 := eq_true q149
            go_wp2_with (first | ((with_reducible refine gate_callee (f := 87) rfl ?_); refine goesL_ (some 17) rfl rfl Try.func87 (by kernel_rfl) rfl #[.slice A149_0 (rd_L5 l0 x5_1).length c149_0, .int .i64 x1_1] rfl (by (try simp only [List.map_toArray, List.map_cons, List.map_nil]); first | done | rfl | (simp only [List.length_drop, List.length_take]; rfl)) ?_; (with_reducible refine (laws_heldRowS.calls _ _ (rd_L5 l0 x5_1) x1_1 t150 _ ?side1 ?side2 A5.out).mono ?_); (case side1 => repeat (first | exact HR149_0.out | (with_reducible refine Kd.C_alloc ?_ _) | (with_reducible refine Kd.C_drewN ?_ _) | (with_reducible refine Kd.C_drew ?_))); (case side2 => exact HC149_0.out); rintro e w' ⟨rfl, ⟨nd, rfl⟩⟩; refine ⟨_, rfl, ?_⟩))
            go_roundg k1
            case measure => have := HK1.out; omega
            case rel => exact ⟨(t150), (wrap64 (x5_1 + 1)), (by first | rfl | (simp; done) | (simp [*]; done)), (by first | rfl | (simp; done) | (simp [*]; done)), H', ⟨by have := HK1.out; omega⟩, by repeat (first | exact Drawn0.refl _ | apply Drawn0.step)⟩
        · rw [if_neg c4] at H
          exact absurd H (by simp)
      · rw [if_neg c3] at H
        have c3b0 : decide (x5_1 < (l0.length : Int)) = false := decide_eq_false c3
        clear c3
        obtain rfl := Option.some.inj H
        go_wp2
        go_ret
        exact ⟨by first | rfl | (simp; done) | (simp [*]; done), by repeat (first | exact Drawn0.refl _ | apply Drawn0.step)⟩

/-! ### laws_heldTable: function 17 -/
def laws_heldTable.f (k : Nat) (a0_0 : Int) (l0_1 : List (List (S72))) (a1 : Int) : Option (Int) := (laws_heldRowSS.f k l0_1 a1).bind fun t152 => (if t152 < 0 then (some (-1)) else (some t152))
theorem laws_heldTable.mono : ∀ a0 a1 a2 k, LeO (laws_heldTable.f k a0 a1 a2) (laws_heldTable.f (k + 1) a0 a1 a2) := by
  intro a0 a1 a2 k
  unfold laws_heldTable.f
  repeat' first
      | (with_reducible exact laws_heldRowSS.mono _ _ _)
      | (with_reducible exact LeO.refl _)
      | (with_reducible exact LeO.none _)
      | (with_reducible refine LeO.ite ?_ ?_)
      | (with_reducible refine LeO.bind ?_ (fun _ => ?_))
      | exact laws_heldRowSS.mono _ _ _
      | exact LeO.none _
      | refine LeO.ite ?_ ?_
      | refine LeO.bind ?_ (fun _ => ?_)
set_option maxHeartbeats 8000000 in
set_option maxRecDepth 100000 in
theorem laws_heldTable.calls (k : Nat) (a0_0 : Int) (A0_1 : Option Addr) (c0_1 : Nat) (l0_1 : List (List (S72))) (a1 : Int) (r : Int) (w : World) (hr0_1 : Kd.C (Kd.slice 72 k72) w A0_1 l0_1.length l0_1) (hc0_1 : l0_1.length ≤ c0_1) (h : laws_heldTable.f k a0_0 l0_1 a1 = some r) :
    Calls Try.prog 17 #[.agg #[.int .i64 a0_0, .slice A0_1 l0_1.length c0_1], .int .i64 a1] w fun e w' => e = .returned (.int .i64 r) ∧ Below w.heap.size w w' := by
  have hu29 := Try.underlying29
  have HR0_1 := Aside0.mk hr0_1
  have HC0_1 := Aside0.mk hc0_1
  clear hr0_1 hc0_1
  have HB := Aside0.mk (Below.refl w.heap.size w)
  have H : ((laws_heldRowSS.f k l0_1 a1).bind fun t152 => (if t152 < 0 then (some (-1)) else (some t152))) = some r := h
  clear h
  replace H := Option.bind_eq_some_iff.mp H
  obtain ⟨t152, A30, H⟩ := H
  replace H : (if t152 < 0 then (some (-1)) else (some t152)) = some r := H
  have A3 := Aside0.mk A30
  clear A30
  by_cases c4 : t152 < 0
  · rw [if_pos c4] at H
    have c4b0 : decide (t152 < 0) = true := decide_eq_true c4
    clear c4
    obtain rfl := Option.some.inj H
    go_enter Try.func17, Try.ntmps17
    go_wp2_with (first | ((with_reducible refine gate_dst (N := 2) rfl ?_); refine box_event ?hg (N := 2) ?hd (cs := #[.int .i64 a0_0, .slice A0_1 l0_1.length c0_1]) (t := 29) ?hr ?_; (case hd => rfl); (case hg => rfl); (case hr => first | (go_simp; done) | (go_simp; rfl)); intro gb151 hg w5 hbox hb; have n0_ := Aside0.mk (below_step (by repeat (first | (with_reducible first | exact HB.out | apply below_alloc | apply pw_below_drewN | apply below_drew1) | exact HB.out)) hb); have n1_ := Aside0.mk (hbox); have n2_ := Aside0.mk ((by rw [hg]; exact (below_size (by repeat (first | (with_reducible first | exact HB.out | apply below_alloc | apply pw_below_drewN | apply below_drew1) | exact HB.out))) : w.heap.size ≤ gb151)); have n3_ := Aside0.mk ((by rw [hg]; exact (below_size (by repeat (first | (with_reducible first | exact HB.out | apply below_alloc | apply pw_below_drewN | apply below_drew1) | exact HB.out))) : w.heap.size ≤ gb151)); clear HB; have HB := n0_; have BK151 := n1_; have GW151 := n2_; have GE151 := n3_; clear n0_ n1_ n2_ n3_; clear hb hbox hg; have hcz6_0 : w5.cell? ⟨gb151, 0, none⟩ = some (.int .i64 a0_0) := (blk_cell BK151.out 0).trans rfl; have hcz6_1 : w5.cell? ⟨gb151, 1, none⟩ = some (.slice A0_1 l0_1.length c0_1) := (blk_cell BK151.out 1).trans rfl; have hfz6_0 := blk_frozen BK151.out 0; have hfz6_1 := blk_frozen BK151.out 1) | ((with_reducible refine gate_callee (f := 52) rfl ?_); refine goesL_ (some 8) rfl rfl Try.func52 (by kernel_rfl) rfl #[.slice A0_1 l0_1.length c0_1, .int .i64 a1] rfl (by (try simp only [List.map_toArray, List.map_cons, List.map_nil]); first | done | rfl | (simp only [List.length_drop, List.length_take]; rfl)) ?_; (with_reducible refine (laws_heldRowSS.calls k _ _ l0_1 a1 t152 _ ?side1 ?side2 A3.out).mono ?_); (case side1 => repeat (first | exact (Kd.C_below HR0_1.out HB.out) | (with_reducible refine Kd.C_alloc ?_ _) | (with_reducible refine Kd.C_drewN ?_ _) | (with_reducible refine Kd.C_drew ?_))); (case side2 => exact HC0_1.out); rintro e w' ⟨rfl, ⟨nd, rfl⟩⟩; refine ⟨_, rfl, ?_⟩))
    go_ret
    exact ⟨by first | rfl | (simp [errW_none, errW_some] <;> rfl) | (simp [*, errW_none, errW_some] <;> rfl), by repeat (first | (with_reducible first | exact HB.out | apply below_alloc | apply pw_below_drewN | apply below_drew1 | refine below_set ?_ GE151.out) | exact HB.out)⟩
  · rw [if_neg c4] at H
    have c4b0 : decide (t152 < 0) = false := decide_eq_false c4
    clear c4
    obtain rfl := Option.some.inj H
    go_enter Try.func17, Try.ntmps17
    go_wp2_with (first | ((with_reducible refine gate_dst (N := 2) rfl ?_); refine box_event ?hg (N := 2) ?hd (cs := #[.int .i64 a0_0, .slice A0_1 l0_1.length c0_1]) (t := 29) ?hr ?_; (case hd => rfl); (case hg => rfl); (case hr => first | (go_simp; done) | (go_simp; rfl)); intro gb151 hg w7 hbox hb; have n0_ := Aside0.mk (below_step (by repeat (first | (with_reducible first | exact HB.out | apply below_alloc | apply pw_below_drewN | apply below_drew1) | exact HB.out)) hb); have n1_ := Aside0.mk (hbox); have n2_ := Aside0.mk ((by rw [hg]; exact (below_size (by repeat (first | (with_reducible first | exact HB.out | apply below_alloc | apply pw_below_drewN | apply below_drew1) | exact HB.out))) : w.heap.size ≤ gb151)); have n3_ := Aside0.mk ((by rw [hg]; exact (below_size (by repeat (first | (with_reducible first | exact HB.out | apply below_alloc | apply pw_below_drewN | apply below_drew1) | exact HB.out))) : w.heap.size ≤ gb151)); clear HB; have HB := n0_; have BK151 := n1_; have GW151 := n2_; have GE151 := n3_; clear n0_ n1_ n2_ n3_; clear hb hbox hg; have hcz8_0 : w7.cell? ⟨gb151, 0, none⟩ = some (.int .i64 a0_0) := (blk_cell BK151.out 0).trans rfl; have hcz8_1 : w7.cell? ⟨gb151, 1, none⟩ = some (.slice A0_1 l0_1.length c0_1) := (blk_cell BK151.out 1).trans rfl; have hfz8_0 := blk_frozen BK151.out 0; have hfz8_1 := blk_frozen BK151.out 1) | ((with_reducible refine gate_callee (f := 52) rfl ?_); refine goesL_ (some 8) rfl rfl Try.func52 (by kernel_rfl) rfl #[.slice A0_1 l0_1.length c0_1, .int .i64 a1] rfl (by (try simp only [List.map_toArray, List.map_cons, List.map_nil]); first | done | rfl | (simp only [List.length_drop, List.length_take]; rfl)) ?_; (with_reducible refine (laws_heldRowSS.calls k _ _ l0_1 a1 t152 _ ?side1 ?side2 A3.out).mono ?_); (case side1 => repeat (first | exact (Kd.C_below HR0_1.out HB.out) | (with_reducible refine Kd.C_alloc ?_ _) | (with_reducible refine Kd.C_drewN ?_ _) | (with_reducible refine Kd.C_drew ?_))); (case side2 => exact HC0_1.out); rintro e w' ⟨rfl, ⟨nd, rfl⟩⟩; refine ⟨_, rfl, ?_⟩))
    go_ret
    exact ⟨by first | rfl | (simp [errW_none, errW_some] <;> rfl) | (simp [*, errW_none, errW_some] <;> rfl), by repeat (first | (with_reducible first | exact HB.out | apply below_alloc | apply pw_below_drewN | apply below_drew1 | refine below_set ?_ GE151.out) | exact HB.out)⟩

/-! ### laws_heldLeadS: function 74 -/
def laws_heldLeadS.f (l0 : List S93) (a1 : Int) : Option Int := if l0.length = 0 then some a1 else none
set_option maxHeartbeats 2000000 in
set_option maxRecDepth 100000 in
theorem laws_heldLeadS.calls (A0 : Option Addr) (c0 : Nat) (l0 : List S93) (a1 : Int) (r : Int) (w : World) (hr0 : Kd.C k93 w A0 l0.length l0) (hc0 : l0.length ≤ c0) (h : laws_heldLeadS.f l0 a1 = some r) :
    Calls Try.prog 74 #[.slice A0 l0.length c0, .int .i64 a1] w fun e w' => e = .returned (.int .i64 r) ∧ Drawn0 w w' := by
  unfold laws_heldLeadS.f at h
  by_cases hl : l0.length = 0
  · rw [if_pos hl] at h
    obtain rfl : a1 = r := Option.some.inj h
    rw [hl]
    clear h hr0 hc0 hl
    go_enter Try.func74, Try.ntmps74
    go_wp2
    go_loopg [1, 5] 0 (fun gg s1 s5 wr => s1 = .int .i64 a1 ∧ s5 = .int .i64 0 ∧ Drawn0 w wr)
    case atStart => exact ⟨rfl, rfl, by repeat (first | exact Drawn0.refl _ | apply Drawn0.step)⟩
    case round =>
      obtain ⟨rfl, rfl, m1, rfl⟩ := hrel
      go_wp2
      go_ret
      exact ⟨rfl, by repeat (first | exact Drawn0.refl _ | apply Drawn0.step)⟩
  · rw [if_neg hl] at h
    cases h

/-! ### laws_heldReplica: function 37 -/
def laws_heldReplica.f (k : Nat) (a0_0 : Int) (a0_1 : Int) (l0_2 : List (List (S72))) (l0_3 : List (S93)) (a1 : Int) : Option (Int) := (laws_heldTable.f k a0_1 l0_2 a1).bind fun t154 => (if t154 < 0 then (some (-1)) else ((laws_heldLeadS.f l0_3 t154).bind fun t155 => (if t155 < 0 then (some (-1)) else (some t155))))
theorem laws_heldReplica.mono : ∀ a0 a1 a2 a3 a4 k, LeO (laws_heldReplica.f k a0 a1 a2 a3 a4) (laws_heldReplica.f (k + 1) a0 a1 a2 a3 a4) := by
  intro a0 a1 a2 a3 a4 k
  unfold laws_heldReplica.f
  repeat' first
      | (with_reducible exact laws_heldTable.mono _ _ _ _)
      | (with_reducible exact LeO.refl _)
      | (with_reducible exact LeO.none _)
      | (with_reducible refine LeO.ite ?_ ?_)
      | (with_reducible refine LeO.bind ?_ (fun _ => ?_))
      | exact laws_heldTable.mono _ _ _ _
      | exact LeO.none _
      | refine LeO.ite ?_ ?_
      | refine LeO.bind ?_ (fun _ => ?_)
set_option maxHeartbeats 8000000 in
set_option maxRecDepth 100000 in
theorem laws_heldReplica.calls (k : Nat) (a0_0 : Int) (a0_1 : Int) (A0_2 : Option Addr) (c0_2 : Nat) (l0_2 : List (List (S72))) (A0_3 : Option Addr) (c0_3 : Nat) (l0_3 : List (S93)) (a1 : Int) (r : Int) (w : World) (hr0_2 : Kd.C (Kd.slice 72 k72) w A0_2 l0_2.length l0_2) (hc0_2 : l0_2.length ≤ c0_2) (hr0_3 : Kd.C k93 w A0_3 l0_3.length l0_3) (hc0_3 : l0_3.length ≤ c0_3) (h : laws_heldReplica.f k a0_0 a0_1 l0_2 l0_3 a1 = some r) :
    Calls Try.prog 37 #[.agg #[.int .i64 a0_0, .int .i64 a0_1, .slice A0_2 l0_2.length c0_2, .slice A0_3 l0_3.length c0_3], .int .i64 a1] w fun e w' => e = .returned (.int .i64 r) ∧ Below w.heap.size w w' := by
  have hu61 := Try.underlying61
  have hu29 := Try.underlying29
  have HR0_2 := Aside0.mk hr0_2
  have HC0_2 := Aside0.mk hc0_2
  clear hr0_2 hc0_2
  have HR0_3 := Aside0.mk hr0_3
  have HC0_3 := Aside0.mk hc0_3
  clear hr0_3 hc0_3
  have HB := Aside0.mk (Below.refl w.heap.size w)
  have H : ((laws_heldTable.f k a0_1 l0_2 a1).bind fun t154 => (if t154 < 0 then (some (-1)) else ((laws_heldLeadS.f l0_3 t154).bind fun t155 => (if t155 < 0 then (some (-1)) else (some t155))))) = some r := h
  clear h
  replace H := Option.bind_eq_some_iff.mp H
  obtain ⟨t154, A30, H⟩ := H
  replace H : (if t154 < 0 then (some (-1)) else ((laws_heldLeadS.f l0_3 t154).bind fun t155 => (if t155 < 0 then (some (-1)) else (some t155)))) = some r := H
  have A3 := Aside0.mk A30
  clear A30
  by_cases c4 : t154 < 0
  · rw [if_pos c4] at H
    have c4b0 : decide (t154 < 0) = true := decide_eq_true c4
    clear c4
    obtain rfl := Option.some.inj H
    go_enter Try.func37, Try.ntmps37
    go_wp2_with (first | ((with_reducible refine gate_dst (N := 2) rfl ?_); refine box_event ?hg (N := 2) ?hd (cs := #[.int .i64 a0_0, .int .i64 a0_1, .slice A0_2 l0_2.length c0_2, .slice A0_3 l0_3.length c0_3]) (t := 61) ?hr ?_; (case hd => rfl); (case hg => rfl); (case hr => first | (go_simp; done) | (go_simp; rfl)); intro gb153 hg w5 hbox hb; have n0_ := Aside0.mk (below_step (by repeat (first | (with_reducible first | exact HB.out | apply below_alloc | apply pw_below_drewN | apply below_drew1) | exact HB.out)) hb); have n1_ := Aside0.mk (hbox); have n2_ := Aside0.mk ((by rw [hg]; exact (below_size (by repeat (first | (with_reducible first | exact HB.out | apply below_alloc | apply pw_below_drewN | apply below_drew1) | exact HB.out))) : w.heap.size ≤ gb153)); have n3_ := Aside0.mk ((by rw [hg]; exact (below_size (by repeat (first | (with_reducible first | exact HB.out | apply below_alloc | apply pw_below_drewN | apply below_drew1) | exact HB.out))) : w.heap.size ≤ gb153)); clear HB; have HB := n0_; have BK153 := n1_; have GW153 := n2_; have GE153 := n3_; clear n0_ n1_ n2_ n3_; clear hb hbox hg; have hcz6_0 : w5.cell? ⟨gb153, 0, none⟩ = some (.int .i64 a0_0) := (blk_cell BK153.out 0).trans rfl; have hcz6_1 : w5.cell? ⟨gb153, 1, none⟩ = some (.int .i64 a0_1) := (blk_cell BK153.out 1).trans rfl; have hcz6_2 : w5.cell? ⟨gb153, 2, none⟩ = some (.slice A0_2 l0_2.length c0_2) := (blk_cell BK153.out 2).trans rfl; have hcz6_3 : w5.cell? ⟨gb153, 3, none⟩ = some (.slice A0_3 l0_3.length c0_3) := (blk_cell BK153.out 3).trans rfl; have hfz6_0 := blk_frozen BK153.out 0; have hfz6_1 := blk_frozen BK153.out 1; have hfz6_2 := blk_frozen BK153.out 2; have hfz6_3 := blk_frozen BK153.out 3) | ((with_reducible refine gate_callee (f := 17) rfl ?_); refine goesL_ (some 8) rfl rfl Try.func17 (by kernel_rfl) rfl #[.agg #[.int .i64 a0_1, .slice A0_2 l0_2.length c0_2], .int .i64 a1] rfl (by (try simp only [List.map_toArray, List.map_cons, List.map_nil]); first | done | rfl | (simp only [List.length_drop, List.length_take]; rfl)) ?_; (with_reducible refine (laws_heldTable.calls k a0_1 _ _ l0_2 a1 t154 _ ?side1 ?side2 A3.out).mono ?_); (case side1 => repeat (first | exact (Kd.C_below HR0_2.out HB.out) | (with_reducible refine Kd.C_alloc ?_ _) | (with_reducible refine Kd.C_drewN ?_ _) | (with_reducible refine Kd.C_drew ?_))); (case side2 => exact HC0_2.out); rintro e w7 ⟨rfl, hb⟩; refine ⟨_, rfl, ?_⟩; have n0_ := Aside0.mk (blk_below (g := gb153) (o := .cells #[.int .i64 a0_0, .int .i64 a0_1, .slice A0_2 l0_2.length c0_2, .slice A0_3 l0_3.length c0_3] 61 (0, 0)) (by (with_reducible repeat (first | refine blk_drewN ?_ _ | refine blk_drew ?_ | refine blk_alloc ?_ _)); exact BK153.out) hb); have n1_ := Aside0.mk (below_step (by repeat (first | (with_reducible first | exact HB.out | apply below_alloc | apply pw_below_drewN | apply below_drew1 | refine below_set ?_ GE153.out) | exact HB.out)) hb); clear BK153; clear HB; have BK153 := n0_; have HB := n1_; clear n0_ n1_; (try clear hb); (try clear hb2); (try clear hk); (try clear hi)))
    go_ret
    exact ⟨by first | rfl | (simp [errW_none, errW_some] <;> rfl) | (simp [*, errW_none, errW_some] <;> rfl), by repeat (first | (with_reducible first | exact HB.out | apply below_alloc | apply pw_below_drewN | apply below_drew1 | refine below_set ?_ GE153.out) | exact HB.out)⟩
  · rw [if_neg c4] at H
    have c4b0 : decide (t154 < 0) = false := decide_eq_false c4
    clear c4
    replace H := Option.bind_eq_some_iff.mp H
    obtain ⟨t155, A80, H⟩ := H
    replace H : (if t155 < 0 then (some (-1)) else (some t155)) = some r := H
    have A8 := Aside0.mk A80
    clear A80
    by_cases c9 : t155 < 0
    · rw [if_pos c9] at H
      have c9b0 : decide (t155 < 0) = true := decide_eq_true c9
      clear c9
      obtain rfl := Option.some.inj H
      go_enter Try.func37, Try.ntmps37
      go_wp2_with (first | ((with_reducible refine gate_dst (N := 2) rfl ?_); refine box_event ?hg (N := 2) ?hd (cs := #[.int .i64 a0_0, .int .i64 a0_1, .slice A0_2 l0_2.length c0_2, .slice A0_3 l0_3.length c0_3]) (t := 61) ?hr ?_; (case hd => rfl); (case hg => rfl); (case hr => first | (go_simp; done) | (go_simp; rfl)); intro gb153 hg w10 hbox hb; have n0_ := Aside0.mk (below_step (by repeat (first | (with_reducible first | exact HB.out | apply below_alloc | apply pw_below_drewN | apply below_drew1) | exact HB.out)) hb); have n1_ := Aside0.mk (hbox); have n2_ := Aside0.mk ((by rw [hg]; exact (below_size (by repeat (first | (with_reducible first | exact HB.out | apply below_alloc | apply pw_below_drewN | apply below_drew1) | exact HB.out))) : w.heap.size ≤ gb153)); have n3_ := Aside0.mk ((by rw [hg]; exact (below_size (by repeat (first | (with_reducible first | exact HB.out | apply below_alloc | apply pw_below_drewN | apply below_drew1) | exact HB.out))) : w.heap.size ≤ gb153)); clear HB; have HB := n0_; have BK153 := n1_; have GW153 := n2_; have GE153 := n3_; clear n0_ n1_ n2_ n3_; clear hb hbox hg; have hcz11_0 : w10.cell? ⟨gb153, 0, none⟩ = some (.int .i64 a0_0) := (blk_cell BK153.out 0).trans rfl; have hcz11_1 : w10.cell? ⟨gb153, 1, none⟩ = some (.int .i64 a0_1) := (blk_cell BK153.out 1).trans rfl; have hcz11_2 : w10.cell? ⟨gb153, 2, none⟩ = some (.slice A0_2 l0_2.length c0_2) := (blk_cell BK153.out 2).trans rfl; have hcz11_3 : w10.cell? ⟨gb153, 3, none⟩ = some (.slice A0_3 l0_3.length c0_3) := (blk_cell BK153.out 3).trans rfl; have hfz11_0 := blk_frozen BK153.out 0; have hfz11_1 := blk_frozen BK153.out 1; have hfz11_2 := blk_frozen BK153.out 2; have hfz11_3 := blk_frozen BK153.out 3) | ((with_reducible refine gate_callee (f := 17) rfl ?_); refine goesL_ (some 8) rfl rfl Try.func17 (by kernel_rfl) rfl #[.agg #[.int .i64 a0_1, .slice A0_2 l0_2.length c0_2], .int .i64 a1] rfl (by (try simp only [List.map_toArray, List.map_cons, List.map_nil]); first | done | rfl | (simp only [List.length_drop, List.length_take]; rfl)) ?_; (with_reducible refine (laws_heldTable.calls k a0_1 _ _ l0_2 a1 t154 _ ?side1 ?side2 A3.out).mono ?_); (case side1 => repeat (first | exact (Kd.C_below HR0_2.out HB.out) | (with_reducible refine Kd.C_alloc ?_ _) | (with_reducible refine Kd.C_drewN ?_ _) | (with_reducible refine Kd.C_drew ?_))); (case side2 => exact HC0_2.out); rintro e w12 ⟨rfl, hb⟩; refine ⟨_, rfl, ?_⟩; have n0_ := Aside0.mk (blk_below (g := gb153) (o := .cells #[.int .i64 a0_0, .int .i64 a0_1, .slice A0_2 l0_2.length c0_2, .slice A0_3 l0_3.length c0_3] 61 (0, 0)) (by (with_reducible repeat (first | refine blk_drewN ?_ _ | refine blk_drew ?_ | refine blk_alloc ?_ _)); exact BK153.out) hb); have n1_ := Aside0.mk (below_step (by repeat (first | (with_reducible first | exact HB.out | apply below_alloc | apply pw_below_drewN | apply below_drew1 | refine below_set ?_ GE153.out) | exact HB.out)) hb); clear BK153; clear HB; have BK153 := n0_; have HB := n1_; clear n0_ n1_; (try clear hb); (try clear hb2); (try clear hk); (try clear hi); have hcz13_0 : w12.cell? ⟨gb153, 0, none⟩ = some (.int .i64 a0_0) := (blk_cell BK153.out 0).trans rfl; have hcz13_1 : w12.cell? ⟨gb153, 1, none⟩ = some (.int .i64 a0_1) := (blk_cell BK153.out 1).trans rfl; have hcz13_2 : w12.cell? ⟨gb153, 2, none⟩ = some (.slice A0_2 l0_2.length c0_2) := (blk_cell BK153.out 2).trans rfl; have hcz13_3 : w12.cell? ⟨gb153, 3, none⟩ = some (.slice A0_3 l0_3.length c0_3) := (blk_cell BK153.out 3).trans rfl; have hfz13_0 := blk_frozen BK153.out 0; have hfz13_1 := blk_frozen BK153.out 1; have hfz13_2 := blk_frozen BK153.out 2; have hfz13_3 := blk_frozen BK153.out 3) | ((with_reducible refine gate_callee (f := 74) rfl ?_); refine goesL_ (some 14) rfl rfl Try.func74 (by kernel_rfl) rfl #[.slice A0_3 l0_3.length c0_3, .int .i64 t154] rfl (by (try simp only [List.map_toArray, List.map_cons, List.map_nil]); first | done | rfl | (simp only [List.length_drop, List.length_take]; rfl)) ?_; (with_reducible refine (laws_heldLeadS.calls _ _ l0_3 t154 t155 _ ?side1 ?side2 A8.out).mono ?_); (case side1 => repeat (first | exact (Kd.C_below HR0_3.out HB.out) | (with_reducible refine Kd.C_alloc ?_ _) | (with_reducible refine Kd.C_drewN ?_ _) | (with_reducible refine Kd.C_drew ?_))); (case side2 => exact HC0_3.out); rintro e w' ⟨rfl, ⟨nd, rfl⟩⟩; refine ⟨_, rfl, ?_⟩))
      go_ret
      exact ⟨by first | rfl | (simp [errW_none, errW_some] <;> rfl) | (simp [*, errW_none, errW_some] <;> rfl), by repeat (first | (with_reducible first | exact HB.out | apply below_alloc | apply pw_below_drewN | apply below_drew1 | refine below_set ?_ GE153.out) | exact HB.out)⟩
    · rw [if_neg c9] at H
      have c9b0 : decide (t155 < 0) = false := decide_eq_false c9
      clear c9
      obtain rfl := Option.some.inj H
      go_enter Try.func37, Try.ntmps37
      go_wp2_with (first | ((with_reducible refine gate_dst (N := 2) rfl ?_); refine box_event ?hg (N := 2) ?hd (cs := #[.int .i64 a0_0, .int .i64 a0_1, .slice A0_2 l0_2.length c0_2, .slice A0_3 l0_3.length c0_3]) (t := 61) ?hr ?_; (case hd => rfl); (case hg => rfl); (case hr => first | (go_simp; done) | (go_simp; rfl)); intro gb153 hg w14 hbox hb; have n0_ := Aside0.mk (below_step (by repeat (first | (with_reducible first | exact HB.out | apply below_alloc | apply pw_below_drewN | apply below_drew1) | exact HB.out)) hb); have n1_ := Aside0.mk (hbox); have n2_ := Aside0.mk ((by rw [hg]; exact (below_size (by repeat (first | (with_reducible first | exact HB.out | apply below_alloc | apply pw_below_drewN | apply below_drew1) | exact HB.out))) : w.heap.size ≤ gb153)); have n3_ := Aside0.mk ((by rw [hg]; exact (below_size (by repeat (first | (with_reducible first | exact HB.out | apply below_alloc | apply pw_below_drewN | apply below_drew1) | exact HB.out))) : w.heap.size ≤ gb153)); clear HB; have HB := n0_; have BK153 := n1_; have GW153 := n2_; have GE153 := n3_; clear n0_ n1_ n2_ n3_; clear hb hbox hg; have hcz15_0 : w14.cell? ⟨gb153, 0, none⟩ = some (.int .i64 a0_0) := (blk_cell BK153.out 0).trans rfl; have hcz15_1 : w14.cell? ⟨gb153, 1, none⟩ = some (.int .i64 a0_1) := (blk_cell BK153.out 1).trans rfl; have hcz15_2 : w14.cell? ⟨gb153, 2, none⟩ = some (.slice A0_2 l0_2.length c0_2) := (blk_cell BK153.out 2).trans rfl; have hcz15_3 : w14.cell? ⟨gb153, 3, none⟩ = some (.slice A0_3 l0_3.length c0_3) := (blk_cell BK153.out 3).trans rfl; have hfz15_0 := blk_frozen BK153.out 0; have hfz15_1 := blk_frozen BK153.out 1; have hfz15_2 := blk_frozen BK153.out 2; have hfz15_3 := blk_frozen BK153.out 3) | ((with_reducible refine gate_callee (f := 17) rfl ?_); refine goesL_ (some 8) rfl rfl Try.func17 (by kernel_rfl) rfl #[.agg #[.int .i64 a0_1, .slice A0_2 l0_2.length c0_2], .int .i64 a1] rfl (by (try simp only [List.map_toArray, List.map_cons, List.map_nil]); first | done | rfl | (simp only [List.length_drop, List.length_take]; rfl)) ?_; (with_reducible refine (laws_heldTable.calls k a0_1 _ _ l0_2 a1 t154 _ ?side1 ?side2 A3.out).mono ?_); (case side1 => repeat (first | exact (Kd.C_below HR0_2.out HB.out) | (with_reducible refine Kd.C_alloc ?_ _) | (with_reducible refine Kd.C_drewN ?_ _) | (with_reducible refine Kd.C_drew ?_))); (case side2 => exact HC0_2.out); rintro e w16 ⟨rfl, hb⟩; refine ⟨_, rfl, ?_⟩; have n0_ := Aside0.mk (blk_below (g := gb153) (o := .cells #[.int .i64 a0_0, .int .i64 a0_1, .slice A0_2 l0_2.length c0_2, .slice A0_3 l0_3.length c0_3] 61 (0, 0)) (by (with_reducible repeat (first | refine blk_drewN ?_ _ | refine blk_drew ?_ | refine blk_alloc ?_ _)); exact BK153.out) hb); have n1_ := Aside0.mk (below_step (by repeat (first | (with_reducible first | exact HB.out | apply below_alloc | apply pw_below_drewN | apply below_drew1 | refine below_set ?_ GE153.out) | exact HB.out)) hb); clear BK153; clear HB; have BK153 := n0_; have HB := n1_; clear n0_ n1_; (try clear hb); (try clear hb2); (try clear hk); (try clear hi); have hcz17_0 : w16.cell? ⟨gb153, 0, none⟩ = some (.int .i64 a0_0) := (blk_cell BK153.out 0).trans rfl; have hcz17_1 : w16.cell? ⟨gb153, 1, none⟩ = some (.int .i64 a0_1) := (blk_cell BK153.out 1).trans rfl; have hcz17_2 : w16.cell? ⟨gb153, 2, none⟩ = some (.slice A0_2 l0_2.length c0_2) := (blk_cell BK153.out 2).trans rfl; have hcz17_3 : w16.cell? ⟨gb153, 3, none⟩ = some (.slice A0_3 l0_3.length c0_3) := (blk_cell BK153.out 3).trans rfl; have hfz17_0 := blk_frozen BK153.out 0; have hfz17_1 := blk_frozen BK153.out 1; have hfz17_2 := blk_frozen BK153.out 2; have hfz17_3 := blk_frozen BK153.out 3) | ((with_reducible refine gate_callee (f := 74) rfl ?_); refine goesL_ (some 14) rfl rfl Try.func74 (by kernel_rfl) rfl #[.slice A0_3 l0_3.length c0_3, .int .i64 t154] rfl (by (try simp only [List.map_toArray, List.map_cons, List.map_nil]); first | done | rfl | (simp only [List.length_drop, List.length_take]; rfl)) ?_; (with_reducible refine (laws_heldLeadS.calls _ _ l0_3 t154 t155 _ ?side1 ?side2 A8.out).mono ?_); (case side1 => repeat (first | exact (Kd.C_below HR0_3.out HB.out) | (with_reducible refine Kd.C_alloc ?_ _) | (with_reducible refine Kd.C_drewN ?_ _) | (with_reducible refine Kd.C_drew ?_))); (case side2 => exact HC0_3.out); rintro e w' ⟨rfl, ⟨nd, rfl⟩⟩; refine ⟨_, rfl, ?_⟩))
      go_ret
      exact ⟨by first | rfl | (simp [errW_none, errW_some] <;> rfl) | (simp [*, errW_none, errW_some] <;> rfl), by repeat (first | (with_reducible first | exact HB.out | apply below_alloc | apply pw_below_drewN | apply below_drew1 | refine below_set ?_ GE153.out) | exact HB.out)⟩

/-! ### laws_FnExactNewReplica: function 8 -/
section
open Go.RowKit
/-- A struct's variable is loaded whole. -/
theorem load_run {P : Program} {o : Oper} {a : Act} {W : World} {g : Nat} {cs : Array Value} {t : TypeId} (hg : W.heap[g]? = some (.cells cs t (0, 0))) (n : Nat) (hn : cs.size = n) (ty : TypeId) (x : Operand) (ho : o.op = .load ty x)
    (hx : a.eval x = .pointer (some ⟨g, 0, none⟩)) (d : TypeDesc) (hu : P.underlying ty = some d) (hd : (match d with | .struct _ | .array _ _ => true | _ => false) = true) (hi : (P.info? ty).map (·.size) = some n) :
    (execOp a.eval o).run P W = .ok (.value (.agg cs)) W := by
  subst hn
  unfold execOp
  simp only [ho, hx, Instr.loadAt, Instr.sureAddr, Sem.run_bind, Sem.run_pure, Result.andThen_ok, run_loadVar_row W g t ty cs (0, 0) d hg hu hd hi]

theorem store_run {P : Program} {o : Oper} {a : Act} {W : World} {g : Nat} {cs cs' : Array Value} {t : TypeId} (hg : W.heap[g]? = some (.cells cs t (0, 0))) (n : Nat) (hn : cs.size = n) (hn' : cs'.size = n) (ty : TypeId) (x y : Operand) (ho : o.op = .store ty x y)
    (hx : a.eval x = .pointer (some ⟨g, 0, none⟩)) (hy : a.eval y = .agg cs') (hi : (P.info? ty).map (·.size) = some n) (h1 : cs'.all (·.oneCell') = true) :
    (execOp a.eval o).run P W = .ok .skip (W.setRow g cs') := by
  unfold execOp
  simp only [ho, hx, hy, Instr.storeAt, Instr.sureAddr, Sem.run_bind, Sem.run_pure, Result.andThen_ok, run_storeVar_row W g t ty cs cs' hg (by rw [hn']; exact hi) (by rw [hn, hn']) h1]
theorem kept_setRow (W : World) (g : Nat) (cs : Array Value) : Kept W (W.setRow g cs) (fun k => k = g) := ⟨by simp, fun i _ hi => setRow_other W g i cs hi⟩
theorem below_setRow_ {B g : Nat} {w0 w : World} (hb : Below B w0 w) (hBg : B ≤ g) (cs : Array Value) : Below B w0 (w.setRow g cs) :=
  ⟨hb.os, hb.tape, hb.output, by simpa using hb.size, fun k hk => (setRow_other w g k cs (by omega)).trans (hb.block k hk)⟩
end
/-- What the law's calls answer. -/
def laws_FnExactNewReplica.Facts (a0 : Int) (a1 : Int) : Prop :=
  ∃ r1 : Int, ∃ r2 : Int, ∃ r3 : List (List (S72)), ∃ r4 : List (S93), ∃ r5 : Bool, (spec_NewReplica.f a0 a1 = some (r1, r2, r3, r4, r5)) ∧ (impl_NewReplica.f a0 a1 = some (r1, r2, r3, r4, r5)) ∧ (∃ K, laws_eqReplica.f K r1 r2 r3 r4 r1 r2 r3 r4 = some true) ∧ (∃ K, laws_markReplica.f K r1 r2 r3 r4 1 = some 1) ∧ (∃ K, laws_heldReplica.f K r1 r2 r3 r4 1 = some 1) ∧ True
set_option maxHeartbeats 8000000 in
set_option maxRecDepth 100000 in
theorem laws_FnExactNewReplica.calls (a0 : Int) (a1 : Int) (w : World)  (h : laws_FnExactNewReplica.Facts a0 a1) :
    Calls Try.prog 8 #[.int .i64 a0, .int .i64 a1] w fun e w' => e = .returned (.bool true) ∧ Below w.heap.size w w' := by
  unfold laws_FnExactNewReplica.Facts at h
  have HF := Aside0.mk h
  clear h
  have HB := Aside0.mk (Below.refl w.heap.size w)
  obtain ⟨r1, r2, r3, r4, r5, h1, hF⟩ := HF.out
  clear HF
  have HF := Aside0.mk hF
  clear hF
  have H1 := Aside0.mk h1
  clear h1
  go_enter Try.func8, Try.ntmps8
  go_wp2_with fail
  (refine (spec_NewReplica.calls a0 a1 r1 r2 r3 r4 r5 w H1.out).mono ?_)
  rintro e w1 ⟨v2_, v3_, rfl, hS0, hS1, hb⟩
  have X1 : Aside0 (Kd.R (Kd.slice 72 k72) 70 w1 w.heap.size (fun k => w.heap.size ≤ k ∧ k < w1.heap.size) v2_ r3) := ⟨Kd.R_mono (Kd.R_lower (Kd.R_bound hS0) HB.out.size) (fun k hk => ⟨hk.2.1, hk.2.2.1⟩)⟩
  have X2 : Aside0 (Kd.R k93 93 w1 w.heap.size (fun k => w.heap.size ≤ k ∧ k < w1.heap.size) v3_ r4) := ⟨Kd.R_mono (Kd.R_lower (Kd.R_bound hS1) HB.out.size) (fun k hk => ⟨hk.2.1, hk.2.2.1⟩)⟩
  have Z1 : Aside0 (w.heap.size ≤ w1.heap.size) := ⟨hb.size⟩
  have hb_ := Aside0.mk (below_then HB.out HB.out.size hb)
  clear HB
  have HB := hb_
  clear hb_
  clear hb hS0 hS1
  obtain ⟨A1_, c1_, rfl⟩ := Kd.R_slice X1.out
  obtain ⟨A2_, c2_, rfl⟩ := Kd.R_slice X2.out
  obtain ⟨h2, hF⟩ := HF.out
  clear HF
  have HF := Aside0.mk hF
  clear hF
  have H2 := Aside0.mk h2
  clear h2
  go_upto_region 2 with (fail)
  refine letC (fun W_ => Below w1.heap.size w1 W_ ∧ W_.heap[w1.heap.size]? = some (.cells #[.int .i64 r1, .int .i64 r2, .slice A1_ r3.length c1_, .slice A2_ r4.length c2_] 61 (0, 0))) ?_ ?_
  · refine ⟨?_, ?_⟩
    · repeat (first | exact Below.refl _ _ | apply below_alloc | refine below_set ?_ (by first | exact Nat.le_refl _ | omega | (simp; done)))
    · exact blk_new w1 (.cells #[.int .i64 r1, .int .i64 r2, .slice A1_ r3.length c1_, .slice A2_ r4.length c2_] 61)
  intro w2 hq_
  obtain ⟨hb, hx0_⟩ := hq_
  have Z2 : Aside0 (w1.heap.size ≤ w2.heap.size) := ⟨hb.size⟩
  have n0_ := Aside0.mk (Kd.R_below X1.out hb)
  have n1_ := Aside0.mk (Kd.R_below X2.out hb)
  have hb_ := Aside0.mk (below_then HB.out HB.out.size hb)
  clear X1 X2
  have X1 := n0_
  have X2 := n1_
  clear n0_ n1_
  clear HB
  have HB := hb_
  clear hb_
  clear hb
  have BX1 : Aside0 (w2.heap[w1.heap.size]? = some (.cells #[.int .i64 r1, .int .i64 r2, .slice A1_ r3.length c1_, .slice A2_ r4.length c2_] 61 (0, 0))) := ⟨hx0_⟩
  clear hx0_
  have GBX1 : Aside0 (w1.heap.size < w2.heap.size) := ⟨blk_lt BX1.out⟩
  go_wp2_with fail
  (refine (impl_NewReplica.calls a0 a1 r1 r2 r3 r4 r5 w2 H2.out).mono ?_)
  rintro e w3 ⟨v2_, v3_, rfl, hS0, hS1, hb⟩
  have X3 : Aside0 (Kd.R (Kd.slice 72 k72) 70 w3 w.heap.size (fun k => w2.heap.size ≤ k ∧ k < w3.heap.size) v2_ r3) := ⟨Kd.R_mono (Kd.R_lower (Kd.R_bound hS0) HB.out.size) (fun k hk => ⟨hk.2.1, hk.2.2.1⟩)⟩
  have X4 : Aside0 (Kd.R k93 93 w3 w.heap.size (fun k => w2.heap.size ≤ k ∧ k < w3.heap.size) v3_ r4) := ⟨Kd.R_mono (Kd.R_lower (Kd.R_bound hS1) HB.out.size) (fun k hk => ⟨hk.2.1, hk.2.2.1⟩)⟩
  have Z3 : Aside0 (w2.heap.size ≤ w3.heap.size) := ⟨hb.size⟩
  have n0_ := Aside0.mk (Kd.R_below X1.out hb)
  have n1_ := Aside0.mk (Kd.R_below X2.out hb)
  have n2_ := Aside0.mk (blk_below BX1.out hb)
  have hb_ := Aside0.mk (below_then HB.out HB.out.size hb)
  clear X1 X2 BX1
  have X1 := n0_
  have X2 := n1_
  have BX1 := n2_
  clear n0_ n1_ n2_
  clear HB
  have HB := hb_
  clear hb_
  clear hb hS0 hS1
  obtain ⟨A3_, c3_, rfl⟩ := Kd.R_slice X3.out
  obtain ⟨A4_, c4_, rfl⟩ := Kd.R_slice X4.out
  obtain ⟨⟨K3, h3⟩, hF⟩ := HF.out
  clear HF
  have HF := Aside0.mk hF
  clear hF
  have H3 := Aside0.mk h3
  clear h3
  go_upto_region 3 with (first | ((with_reducible refine gate_dst (N := 25) rfl ?_); first | refine Kd.event_run rfl (load_run BX1.out 4 rfl 61 _ (by rfl) (by rfl) _ Try.underlying61 rfl (by kernel_rfl)) ?_) | ((with_reducible refine gate_dst (N := 26) rfl ?_); first | refine Kd.event_run rfl (load_run BX1.out 4 rfl 61 _ (by rfl) (by rfl) _ Try.underlying61 rfl (by kernel_rfl)) ?_) | ((with_reducible refine gate_dst (N := 34) rfl ?_); first | refine Kd.event_run rfl (load_run BX1.out 4 rfl 61 _ (by rfl) (by rfl) _ Try.underlying61 rfl (by kernel_rfl)) ?_) | ((with_reducible refine gate_dst (N := 37) rfl ?_); first | refine Kd.event_run rfl (load_run BX1.out 4 rfl 61 _ (by rfl) (by rfl) _ Try.underlying61 rfl (by kernel_rfl)) ?_) | ((with_reducible refine gate_dst (N := 51) rfl ?_); first | refine Kd.event_run rfl (load_run BX1.out 4 rfl 61 _ (by rfl) (by rfl) _ Try.underlying61 rfl (by kernel_rfl)) ?_) | ((with_reducible refine gate_dst (N := 52) rfl ?_); first | refine Kd.event_run rfl (load_run BX1.out 4 rfl 61 _ (by rfl) (by rfl) _ Try.underlying61 rfl (by kernel_rfl)) ?_) | ((with_reducible refine gate_dst (N := 60) rfl ?_); first | refine Kd.event_run rfl (load_run BX1.out 4 rfl 61 _ (by rfl) (by rfl) _ Try.underlying61 rfl (by kernel_rfl)) ?_))
  refine letC (fun W_ => Below w3.heap.size w3 W_ ∧ W_.heap[w3.heap.size]? = some (.cells #[.int .i64 r1, .int .i64 r2, .slice A3_ r3.length c3_, .slice A4_ r4.length c4_] 61 (0, 0))) ?_ ?_
  · refine ⟨?_, ?_⟩
    · repeat (first | exact Below.refl _ _ | apply below_alloc | refine below_set ?_ (by first | exact Nat.le_refl _ | omega | (simp; done)))
    · exact blk_new w3 (.cells #[.int .i64 r1, .int .i64 r2, .slice A3_ r3.length c3_, .slice A4_ r4.length c4_] 61)
  intro w4 hq_
  obtain ⟨hb, hx0_⟩ := hq_
  have Z4 : Aside0 (w3.heap.size ≤ w4.heap.size) := ⟨hb.size⟩
  have n0_ := Aside0.mk (Kd.R_below X1.out hb)
  have n1_ := Aside0.mk (Kd.R_below X2.out hb)
  have n2_ := Aside0.mk (Kd.R_below X3.out hb)
  have n3_ := Aside0.mk (Kd.R_below X4.out hb)
  have n4_ := Aside0.mk (blk_below BX1.out hb)
  have hb_ := Aside0.mk (below_then HB.out HB.out.size hb)
  clear X1 X2 X3 X4 BX1
  have X1 := n0_
  have X2 := n1_
  have X3 := n2_
  have X4 := n3_
  have BX1 := n4_
  clear n0_ n1_ n2_ n3_ n4_
  clear HB
  have HB := hb_
  clear hb_
  clear hb
  have BX2 : Aside0 (w4.heap[w3.heap.size]? = some (.cells #[.int .i64 r1, .int .i64 r2, .slice A3_ r3.length c3_, .slice A4_ r4.length c4_] 61 (0, 0))) := ⟨hx0_⟩
  clear hx0_
  have GBX2 : Aside0 (w3.heap.size < w4.heap.size) := ⟨blk_lt BX2.out⟩
  go_wp2_with (first | ((with_reducible refine gate_dst (N := 25) rfl ?_); first | refine Kd.event_run rfl (load_run BX1.out 4 rfl 61 _ (by rfl) (by rfl) _ Try.underlying61 rfl (by kernel_rfl)) ?_ | refine Kd.event_run rfl (load_run BX2.out 4 rfl 61 _ (by rfl) (by rfl) _ Try.underlying61 rfl (by kernel_rfl)) ?_) | ((with_reducible refine gate_dst (N := 26) rfl ?_); first | refine Kd.event_run rfl (load_run BX1.out 4 rfl 61 _ (by rfl) (by rfl) _ Try.underlying61 rfl (by kernel_rfl)) ?_ | refine Kd.event_run rfl (load_run BX2.out 4 rfl 61 _ (by rfl) (by rfl) _ Try.underlying61 rfl (by kernel_rfl)) ?_) | ((with_reducible refine gate_dst (N := 34) rfl ?_); first | refine Kd.event_run rfl (load_run BX1.out 4 rfl 61 _ (by rfl) (by rfl) _ Try.underlying61 rfl (by kernel_rfl)) ?_ | refine Kd.event_run rfl (load_run BX2.out 4 rfl 61 _ (by rfl) (by rfl) _ Try.underlying61 rfl (by kernel_rfl)) ?_) | ((with_reducible refine gate_dst (N := 37) rfl ?_); first | refine Kd.event_run rfl (load_run BX1.out 4 rfl 61 _ (by rfl) (by rfl) _ Try.underlying61 rfl (by kernel_rfl)) ?_ | refine Kd.event_run rfl (load_run BX2.out 4 rfl 61 _ (by rfl) (by rfl) _ Try.underlying61 rfl (by kernel_rfl)) ?_) | ((with_reducible refine gate_dst (N := 51) rfl ?_); first | refine Kd.event_run rfl (load_run BX1.out 4 rfl 61 _ (by rfl) (by rfl) _ Try.underlying61 rfl (by kernel_rfl)) ?_ | refine Kd.event_run rfl (load_run BX2.out 4 rfl 61 _ (by rfl) (by rfl) _ Try.underlying61 rfl (by kernel_rfl)) ?_) | ((with_reducible refine gate_dst (N := 52) rfl ?_); first | refine Kd.event_run rfl (load_run BX1.out 4 rfl 61 _ (by rfl) (by rfl) _ Try.underlying61 rfl (by kernel_rfl)) ?_ | refine Kd.event_run rfl (load_run BX2.out 4 rfl 61 _ (by rfl) (by rfl) _ Try.underlying61 rfl (by kernel_rfl)) ?_) | ((with_reducible refine gate_dst (N := 60) rfl ?_); first | refine Kd.event_run rfl (load_run BX1.out 4 rfl 61 _ (by rfl) (by rfl) _ Try.underlying61 rfl (by kernel_rfl)) ?_ | refine Kd.event_run rfl (load_run BX2.out 4 rfl 61 _ (by rfl) (by rfl) _ Try.underlying61 rfl (by kernel_rfl)) ?_))
  (refine (laws_eqReplica.calls K3 r1 r2 A3_ c3_ r3 A4_ c4_ r4 r1 r2 A1_ c1_ r3 A2_ c2_ r4 true w4 (Kd.R_reads' X3.out).2.2 (Kd.R_reads' X3.out).2.1 (Kd.R_reads' X4.out).2.2 (Kd.R_reads' X4.out).2.1 (Kd.R_reads' X1.out).2.2 (Kd.R_reads' X1.out).2.1 (Kd.R_reads' X2.out).2.2 (Kd.R_reads' X2.out).2.1 H3.out).mono ?_)
  rintro e w5 ⟨rfl, hb⟩
  have Z5 : Aside0 (w4.heap.size ≤ w5.heap.size) := ⟨hb.size⟩
  have n0_ := Aside0.mk (Kd.R_below X1.out hb)
  have n1_ := Aside0.mk (Kd.R_below X2.out hb)
  have n2_ := Aside0.mk (Kd.R_below X3.out hb)
  have n3_ := Aside0.mk (Kd.R_below X4.out hb)
  have n4_ := Aside0.mk (blk_below BX1.out hb)
  have n5_ := Aside0.mk (blk_below BX2.out hb)
  have hb_ := Aside0.mk (below_then HB.out HB.out.size hb)
  clear X1 X2 X3 X4 BX1 BX2
  have X1 := n0_
  have X2 := n1_
  have X3 := n2_
  have X4 := n3_
  have BX1 := n4_
  have BX2 := n5_
  clear n0_ n1_ n2_ n3_ n4_ n5_
  clear HB
  have HB := hb_
  clear hb_
  clear hb
  obtain ⟨⟨K4, h4⟩, hF⟩ := HF.out
  clear HF
  have HF := Aside0.mk hF
  clear hF
  have H4 := Aside0.mk h4
  clear h4
  go_wp2_with (first | ((with_reducible refine gate_dst (N := 25) rfl ?_); first | refine Kd.event_run rfl (load_run BX2.out 4 rfl 61 _ (by rfl) (by rfl) _ Try.underlying61 rfl (by kernel_rfl)) ?_) | ((with_reducible refine gate_dst (N := 26) rfl ?_); first | refine Kd.event_run rfl (load_run BX2.out 4 rfl 61 _ (by rfl) (by rfl) _ Try.underlying61 rfl (by kernel_rfl)) ?_) | ((with_reducible refine gate_dst (N := 34) rfl ?_); first | refine Kd.event_run rfl (load_run BX2.out 4 rfl 61 _ (by rfl) (by rfl) _ Try.underlying61 rfl (by kernel_rfl)) ?_) | ((with_reducible refine gate_dst (N := 37) rfl ?_); first | refine Kd.event_run rfl (load_run BX2.out 4 rfl 61 _ (by rfl) (by rfl) _ Try.underlying61 rfl (by kernel_rfl)) ?_) | ((with_reducible refine gate_dst (N := 51) rfl ?_); first | refine Kd.event_run rfl (load_run BX2.out 4 rfl 61 _ (by rfl) (by rfl) _ Try.underlying61 rfl (by kernel_rfl)) ?_) | ((with_reducible refine gate_dst (N := 52) rfl ?_); first | refine Kd.event_run rfl (load_run BX2.out 4 rfl 61 _ (by rfl) (by rfl) _ Try.underlying61 rfl (by kernel_rfl)) ?_) | ((with_reducible refine gate_dst (N := 60) rfl ?_); first | refine Kd.event_run rfl (load_run BX2.out 4 rfl 61 _ (by rfl) (by rfl) _ Try.underlying61 rfl (by kernel_rfl)) ?_))
  (refine (laws_markReplica.calls K4 r1 r2 A3_ c3_ r3 A4_ c4_ r4 1 1 w5 (Kd.R_reads' X3.out).2.2 (Kd.R_reads' X3.out).2.1 (Kd.R_reads' X4.out).2.2 (Kd.R_reads' X4.out).2.1 H4.out).mono ?_)
  rintro e w6 ⟨rfl, hb⟩
  have Z6 : Aside0 (w5.heap.size ≤ w6.heap.size) := ⟨hb.size⟩
  have n0_ := Aside0.mk (Kd.R_below X1.out hb)
  have n1_ := Aside0.mk (Kd.R_below X2.out hb)
  have n2_ := Aside0.mk (Kd.R_below X3.out hb)
  have n3_ := Aside0.mk (Kd.R_below X4.out hb)
  have n4_ := Aside0.mk (blk_below BX1.out hb)
  have n5_ := Aside0.mk (blk_below BX2.out hb)
  have hb_ := Aside0.mk (below_then HB.out HB.out.size hb)
  clear X1 X2 X3 X4 BX1 BX2
  have X1 := n0_
  have X2 := n1_
  have X3 := n2_
  have X4 := n3_
  have BX1 := n4_
  have BX2 := n5_
  clear n0_ n1_ n2_ n3_ n4_ n5_
  clear HB
  have HB := hb_
  clear hb_
  clear hb
  obtain ⟨⟨K5, h5⟩, hF⟩ := HF.out
  clear HF
  have HF := Aside0.mk hF
  clear hF
  have H5 := Aside0.mk h5
  clear h5
  go_wp2_with (first | ((with_reducible refine gate_dst (N := 25) rfl ?_); first | refine Kd.event_run rfl (load_run BX2.out 4 rfl 61 _ (by rfl) (by rfl) _ Try.underlying61 rfl (by kernel_rfl)) ?_) | ((with_reducible refine gate_dst (N := 26) rfl ?_); first | refine Kd.event_run rfl (load_run BX2.out 4 rfl 61 _ (by rfl) (by rfl) _ Try.underlying61 rfl (by kernel_rfl)) ?_) | ((with_reducible refine gate_dst (N := 34) rfl ?_); first | refine Kd.event_run rfl (load_run BX2.out 4 rfl 61 _ (by rfl) (by rfl) _ Try.underlying61 rfl (by kernel_rfl)) ?_) | ((with_reducible refine gate_dst (N := 37) rfl ?_); first | refine Kd.event_run rfl (load_run BX2.out 4 rfl 61 _ (by rfl) (by rfl) _ Try.underlying61 rfl (by kernel_rfl)) ?_) | ((with_reducible refine gate_dst (N := 51) rfl ?_); first | refine Kd.event_run rfl (load_run BX2.out 4 rfl 61 _ (by rfl) (by rfl) _ Try.underlying61 rfl (by kernel_rfl)) ?_) | ((with_reducible refine gate_dst (N := 52) rfl ?_); first | refine Kd.event_run rfl (load_run BX2.out 4 rfl 61 _ (by rfl) (by rfl) _ Try.underlying61 rfl (by kernel_rfl)) ?_) | ((with_reducible refine gate_dst (N := 60) rfl ?_); first | refine Kd.event_run rfl (load_run BX2.out 4 rfl 61 _ (by rfl) (by rfl) _ Try.underlying61 rfl (by kernel_rfl)) ?_))
  (refine (laws_heldReplica.calls K5 r1 r2 A3_ c3_ r3 A4_ c4_ r4 1 1 w6 (Kd.R_reads' X3.out).2.2 (Kd.R_reads' X3.out).2.1 (Kd.R_reads' X4.out).2.2 (Kd.R_reads' X4.out).2.1 H5.out).mono ?_)
  rintro e w7 ⟨rfl, hb⟩
  have Z7 : Aside0 (w6.heap.size ≤ w7.heap.size) := ⟨hb.size⟩
  have n0_ := Aside0.mk (Kd.R_below X1.out hb)
  have n1_ := Aside0.mk (Kd.R_below X2.out hb)
  have n2_ := Aside0.mk (Kd.R_below X3.out hb)
  have n3_ := Aside0.mk (Kd.R_below X4.out hb)
  have n4_ := Aside0.mk (blk_below BX1.out hb)
  have n5_ := Aside0.mk (blk_below BX2.out hb)
  have hb_ := Aside0.mk (below_then HB.out HB.out.size hb)
  clear X1 X2 X3 X4 BX1 BX2
  have X1 := n0_
  have X2 := n1_
  have X3 := n2_
  have X4 := n3_
  have BX1 := n4_
  have BX2 := n5_
  clear n0_ n1_ n2_ n3_ n4_ n5_
  clear HB
  have HB := hb_
  clear hb_
  clear hb
  go_wp2_with fail
  (refine (impl_NewReplica.calls a0 a1 r1 r2 r3 r4 r5 w7 H2.out).mono ?_)
  rintro e w8 ⟨v2_, v3_, rfl, hS0, hS1, hb⟩
  have X5 : Aside0 (Kd.R (Kd.slice 72 k72) 70 w8 w.heap.size (fun k => w7.heap.size ≤ k ∧ k < w8.heap.size) v2_ r3) := ⟨Kd.R_mono (Kd.R_lower (Kd.R_bound hS0) HB.out.size) (fun k hk => ⟨hk.2.1, hk.2.2.1⟩)⟩
  have X6 : Aside0 (Kd.R k93 93 w8 w.heap.size (fun k => w7.heap.size ≤ k ∧ k < w8.heap.size) v3_ r4) := ⟨Kd.R_mono (Kd.R_lower (Kd.R_bound hS1) HB.out.size) (fun k hk => ⟨hk.2.1, hk.2.2.1⟩)⟩
  have Z8 : Aside0 (w7.heap.size ≤ w8.heap.size) := ⟨hb.size⟩
  have n0_ := Aside0.mk (Kd.R_below X1.out hb)
  have n1_ := Aside0.mk (Kd.R_below X2.out hb)
  have n2_ := Aside0.mk (Kd.R_below X3.out hb)
  have n3_ := Aside0.mk (Kd.R_below X4.out hb)
  have n4_ := Aside0.mk (blk_below BX1.out hb)
  have n5_ := Aside0.mk (blk_below BX2.out hb)
  have hb_ := Aside0.mk (below_then HB.out HB.out.size hb)
  clear X1 X2 X3 X4 BX1 BX2
  have X1 := n0_
  have X2 := n1_
  have X3 := n2_
  have X4 := n3_
  have BX1 := n4_
  have BX2 := n5_
  clear n0_ n1_ n2_ n3_ n4_ n5_
  clear HB
  have HB := hb_
  clear hb_
  clear hb hS0 hS1
  obtain ⟨A5_, c5_, rfl⟩ := Kd.R_slice X5.out
  obtain ⟨A6_, c6_, rfl⟩ := Kd.R_slice X6.out
  go_upto_region 14 with (first | ((with_reducible refine gate_dst (N := 25) rfl ?_); first | refine Kd.event_run rfl (load_run BX1.out 4 rfl 61 _ (by rfl) (by rfl) _ Try.underlying61 rfl (by kernel_rfl)) ?_) | ((with_reducible refine gate_dst (N := 26) rfl ?_); first | refine Kd.event_run rfl (load_run BX1.out 4 rfl 61 _ (by rfl) (by rfl) _ Try.underlying61 rfl (by kernel_rfl)) ?_) | ((with_reducible refine gate_dst (N := 34) rfl ?_); first | refine Kd.event_run rfl (load_run BX1.out 4 rfl 61 _ (by rfl) (by rfl) _ Try.underlying61 rfl (by kernel_rfl)) ?_) | ((with_reducible refine gate_dst (N := 37) rfl ?_); first | refine Kd.event_run rfl (load_run BX1.out 4 rfl 61 _ (by rfl) (by rfl) _ Try.underlying61 rfl (by kernel_rfl)) ?_) | ((with_reducible refine gate_dst (N := 51) rfl ?_); first | refine Kd.event_run rfl (load_run BX1.out 4 rfl 61 _ (by rfl) (by rfl) _ Try.underlying61 rfl (by kernel_rfl)) ?_) | ((with_reducible refine gate_dst (N := 52) rfl ?_); first | refine Kd.event_run rfl (load_run BX1.out 4 rfl 61 _ (by rfl) (by rfl) _ Try.underlying61 rfl (by kernel_rfl)) ?_) | ((with_reducible refine gate_dst (N := 60) rfl ?_); first | refine Kd.event_run rfl (load_run BX1.out 4 rfl 61 _ (by rfl) (by rfl) _ Try.underlying61 rfl (by kernel_rfl)) ?_))
  refine letC (fun W_ => Below w8.heap.size w8 W_ ∧ W_.heap[w8.heap.size]? = some (.cells #[.int .i64 r1, .int .i64 r2, .slice A5_ r3.length c5_, .slice A6_ r4.length c6_] 61 (0, 0))) ?_ ?_
  · refine ⟨?_, ?_⟩
    · repeat (first | exact Below.refl _ _ | apply below_alloc | refine below_set ?_ (by first | exact Nat.le_refl _ | omega | (simp; done)))
    · exact blk_new w8 (.cells #[.int .i64 r1, .int .i64 r2, .slice A5_ r3.length c5_, .slice A6_ r4.length c6_] 61)
  intro w9 hq_
  obtain ⟨hb, hx0_⟩ := hq_
  have Z9 : Aside0 (w8.heap.size ≤ w9.heap.size) := ⟨hb.size⟩
  have n0_ := Aside0.mk (Kd.R_below X1.out hb)
  have n1_ := Aside0.mk (Kd.R_below X2.out hb)
  have n2_ := Aside0.mk (Kd.R_below X3.out hb)
  have n3_ := Aside0.mk (Kd.R_below X4.out hb)
  have n4_ := Aside0.mk (Kd.R_below X5.out hb)
  have n5_ := Aside0.mk (Kd.R_below X6.out hb)
  have n6_ := Aside0.mk (blk_below BX1.out hb)
  have n7_ := Aside0.mk (blk_below BX2.out hb)
  have hb_ := Aside0.mk (below_then HB.out HB.out.size hb)
  clear X1 X2 X3 X4 X5 X6 BX1 BX2
  have X1 := n0_
  have X2 := n1_
  have X3 := n2_
  have X4 := n3_
  have X5 := n4_
  have X6 := n5_
  have BX1 := n6_
  have BX2 := n7_
  clear n0_ n1_ n2_ n3_ n4_ n5_ n6_ n7_
  clear HB
  have HB := hb_
  clear hb_
  clear hb
  have BX3 : Aside0 (w9.heap[w8.heap.size]? = some (.cells #[.int .i64 r1, .int .i64 r2, .slice A5_ r3.length c5_, .slice A6_ r4.length c6_] 61 (0, 0))) := ⟨hx0_⟩
  clear hx0_
  have GBX3 : Aside0 (w8.heap.size < w9.heap.size) := ⟨blk_lt BX3.out⟩
  go_wp2_with (first | ((with_reducible refine gate_dst (N := 25) rfl ?_); first | refine Kd.event_run rfl (load_run BX1.out 4 rfl 61 _ (by rfl) (by rfl) _ Try.underlying61 rfl (by kernel_rfl)) ?_ | refine Kd.event_run rfl (load_run BX3.out 4 rfl 61 _ (by rfl) (by rfl) _ Try.underlying61 rfl (by kernel_rfl)) ?_) | ((with_reducible refine gate_dst (N := 26) rfl ?_); first | refine Kd.event_run rfl (load_run BX1.out 4 rfl 61 _ (by rfl) (by rfl) _ Try.underlying61 rfl (by kernel_rfl)) ?_ | refine Kd.event_run rfl (load_run BX3.out 4 rfl 61 _ (by rfl) (by rfl) _ Try.underlying61 rfl (by kernel_rfl)) ?_) | ((with_reducible refine gate_dst (N := 34) rfl ?_); first | refine Kd.event_run rfl (load_run BX1.out 4 rfl 61 _ (by rfl) (by rfl) _ Try.underlying61 rfl (by kernel_rfl)) ?_ | refine Kd.event_run rfl (load_run BX3.out 4 rfl 61 _ (by rfl) (by rfl) _ Try.underlying61 rfl (by kernel_rfl)) ?_) | ((with_reducible refine gate_dst (N := 37) rfl ?_); first | refine Kd.event_run rfl (load_run BX1.out 4 rfl 61 _ (by rfl) (by rfl) _ Try.underlying61 rfl (by kernel_rfl)) ?_ | refine Kd.event_run rfl (load_run BX3.out 4 rfl 61 _ (by rfl) (by rfl) _ Try.underlying61 rfl (by kernel_rfl)) ?_) | ((with_reducible refine gate_dst (N := 51) rfl ?_); first | refine Kd.event_run rfl (load_run BX1.out 4 rfl 61 _ (by rfl) (by rfl) _ Try.underlying61 rfl (by kernel_rfl)) ?_ | refine Kd.event_run rfl (load_run BX3.out 4 rfl 61 _ (by rfl) (by rfl) _ Try.underlying61 rfl (by kernel_rfl)) ?_) | ((with_reducible refine gate_dst (N := 52) rfl ?_); first | refine Kd.event_run rfl (load_run BX1.out 4 rfl 61 _ (by rfl) (by rfl) _ Try.underlying61 rfl (by kernel_rfl)) ?_ | refine Kd.event_run rfl (load_run BX3.out 4 rfl 61 _ (by rfl) (by rfl) _ Try.underlying61 rfl (by kernel_rfl)) ?_) | ((with_reducible refine gate_dst (N := 60) rfl ?_); first | refine Kd.event_run rfl (load_run BX1.out 4 rfl 61 _ (by rfl) (by rfl) _ Try.underlying61 rfl (by kernel_rfl)) ?_ | refine Kd.event_run rfl (load_run BX3.out 4 rfl 61 _ (by rfl) (by rfl) _ Try.underlying61 rfl (by kernel_rfl)) ?_))
  (refine (laws_eqReplica.calls K3 r1 r2 A5_ c5_ r3 A6_ c6_ r4 r1 r2 A1_ c1_ r3 A2_ c2_ r4 true w9 (Kd.R_reads' X5.out).2.2 (Kd.R_reads' X5.out).2.1 (Kd.R_reads' X6.out).2.2 (Kd.R_reads' X6.out).2.1 (Kd.R_reads' X1.out).2.2 (Kd.R_reads' X1.out).2.1 (Kd.R_reads' X2.out).2.2 (Kd.R_reads' X2.out).2.1 H3.out).mono ?_)
  rintro e w10 ⟨rfl, hb⟩
  have Z10 : Aside0 (w9.heap.size ≤ w10.heap.size) := ⟨hb.size⟩
  have n0_ := Aside0.mk (Kd.R_below X1.out hb)
  have n1_ := Aside0.mk (Kd.R_below X2.out hb)
  have n2_ := Aside0.mk (Kd.R_below X3.out hb)
  have n3_ := Aside0.mk (Kd.R_below X4.out hb)
  have n4_ := Aside0.mk (Kd.R_below X5.out hb)
  have n5_ := Aside0.mk (Kd.R_below X6.out hb)
  have n6_ := Aside0.mk (blk_below BX1.out hb)
  have n7_ := Aside0.mk (blk_below BX2.out hb)
  have n8_ := Aside0.mk (blk_below BX3.out hb)
  have hb_ := Aside0.mk (below_then HB.out HB.out.size hb)
  clear X1 X2 X3 X4 X5 X6 BX1 BX2 BX3
  have X1 := n0_
  have X2 := n1_
  have X3 := n2_
  have X4 := n3_
  have X5 := n4_
  have X6 := n5_
  have BX1 := n6_
  have BX2 := n7_
  have BX3 := n8_
  clear n0_ n1_ n2_ n3_ n4_ n5_ n6_ n7_ n8_
  clear HB
  have HB := hb_
  clear hb_
  clear hb
  go_wp2_with (first | ((with_reducible refine gate_dst (N := 25) rfl ?_); first | refine Kd.event_run rfl (load_run BX2.out 4 rfl 61 _ (by rfl) (by rfl) _ Try.underlying61 rfl (by kernel_rfl)) ?_) | ((with_reducible refine gate_dst (N := 26) rfl ?_); first | refine Kd.event_run rfl (load_run BX2.out 4 rfl 61 _ (by rfl) (by rfl) _ Try.underlying61 rfl (by kernel_rfl)) ?_) | ((with_reducible refine gate_dst (N := 34) rfl ?_); first | refine Kd.event_run rfl (load_run BX2.out 4 rfl 61 _ (by rfl) (by rfl) _ Try.underlying61 rfl (by kernel_rfl)) ?_) | ((with_reducible refine gate_dst (N := 37) rfl ?_); first | refine Kd.event_run rfl (load_run BX2.out 4 rfl 61 _ (by rfl) (by rfl) _ Try.underlying61 rfl (by kernel_rfl)) ?_) | ((with_reducible refine gate_dst (N := 51) rfl ?_); first | refine Kd.event_run rfl (load_run BX2.out 4 rfl 61 _ (by rfl) (by rfl) _ Try.underlying61 rfl (by kernel_rfl)) ?_) | ((with_reducible refine gate_dst (N := 52) rfl ?_); first | refine Kd.event_run rfl (load_run BX2.out 4 rfl 61 _ (by rfl) (by rfl) _ Try.underlying61 rfl (by kernel_rfl)) ?_) | ((with_reducible refine gate_dst (N := 60) rfl ?_); first | refine Kd.event_run rfl (load_run BX2.out 4 rfl 61 _ (by rfl) (by rfl) _ Try.underlying61 rfl (by kernel_rfl)) ?_))
  (refine (laws_heldReplica.calls K5 r1 r2 A3_ c3_ r3 A4_ c4_ r4 1 1 w10 (Kd.R_reads' X3.out).2.2 (Kd.R_reads' X3.out).2.1 (Kd.R_reads' X4.out).2.2 (Kd.R_reads' X4.out).2.1 H5.out).mono ?_)
  rintro e w11 ⟨rfl, hb⟩
  have Z11 : Aside0 (w10.heap.size ≤ w11.heap.size) := ⟨hb.size⟩
  have n0_ := Aside0.mk (Kd.R_below X1.out hb)
  have n1_ := Aside0.mk (Kd.R_below X2.out hb)
  have n2_ := Aside0.mk (Kd.R_below X3.out hb)
  have n3_ := Aside0.mk (Kd.R_below X4.out hb)
  have n4_ := Aside0.mk (Kd.R_below X5.out hb)
  have n5_ := Aside0.mk (Kd.R_below X6.out hb)
  have n6_ := Aside0.mk (blk_below BX1.out hb)
  have n7_ := Aside0.mk (blk_below BX2.out hb)
  have n8_ := Aside0.mk (blk_below BX3.out hb)
  have hb_ := Aside0.mk (below_then HB.out HB.out.size hb)
  clear X1 X2 X3 X4 X5 X6 BX1 BX2 BX3
  have X1 := n0_
  have X2 := n1_
  have X3 := n2_
  have X4 := n3_
  have X5 := n4_
  have X6 := n5_
  have BX1 := n6_
  have BX2 := n7_
  have BX3 := n8_
  clear n0_ n1_ n2_ n3_ n4_ n5_ n6_ n7_ n8_
  clear HB
  have HB := hb_
  clear hb_
  clear hb
  go_wp2
  go_ret
  exact ⟨rfl, HB.out⟩

/-- THE ONE PURE STATEMENT of laws_FnExactNewReplica. -/
def laws_FnExactNewReplica.Pure : Prop := ∀ (a0 : Int) (a1 : Int), (Lit.int .i64 a0).wf = true → (Lit.int .i64 a1).wf = true → laws_FnExactNewReplica.Facts a0 a1

end Go.Proofs.Ytacpjifbgnlppaa.QFnExactNewReplica
