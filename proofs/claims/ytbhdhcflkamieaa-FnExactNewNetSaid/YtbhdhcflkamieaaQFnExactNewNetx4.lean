-- Written by a program of this session (wip/mk.py) over the kit's print: Lean checks it.
import Derived.Test.YtbhdhcflkamieaaQFnExactNewNetx0
import Derived.Test.YtbhdhcflkamieaaQFnExactNewNetx1
import Derived.Test.YtbhdhcflkamieaaQFnExactNewNetx3
namespace Go.Proofs.Ytbhdhcflkamieaa.QFnExactNewNet
open Go.RowKit Go.Proofs.YtbhdhcflkamieaaW.PrintWords Go.Proofs.YtbhdhcflkamieaaW.PrintLast Go.Proofs.YtbhdhcflkamieaaW.PrintMore
attribute [local go_sem] max2_int min2_int max_two min_two max_three min_three max_four min_four   -- for this text's walks alone
set_option linter.unusedVariables false
set_option linter.unusedSimpArgs false

/-! ### laws_heldReplicaS: function 44 -/
def laws_heldReplicaS.l0 : Nat → List (S70) → Int → Int → Option (Int)
  | 0, _, _, _ => none
  | k + 1, x0, x1, x5 => if x5 < (x0.length : Int) then (if 0 ≤ x5 then (if ((rd_T70 x0 x5).f0) = x1 then (if ((rd_T70 x0 x5).f1.f0) = (wrap64 (x1 + 1)) then ((laws_heldRowSS.f k ((rd_T70 x0 x5).f1.f1) (wrap64 ((wrap64 (x1 + 1)) + 1))).bind fun t173 => (if t173 < 0 then (some (-1)) else ((laws_heldLeadS.f ((rd_T70 x0 x5).f2) t173).bind fun t175 => (if t175 < 0 then (some (-1)) else (laws_heldReplicaS.l0 k x0 t175 (wrap64 (x5 + 1))))))) else (some (-1))) else (some (-1))) else (none)) else (some x1)
def laws_heldReplicaS.f (k : Nat) (l0 : List (S70)) (a1 : Int) : Option (Int) := laws_heldReplicaS.l0 k l0 a1 0
theorem laws_heldReplicaS.mono_l : ∀ k, (∀ y0 y1 y2, LeO (laws_heldReplicaS.l0 k y0 y1 y2) (laws_heldReplicaS.l0 (k + 1) y0 y1 y2))
  | 0 => fun _ _ _ r h => by simp [laws_heldReplicaS.l0] at h
  | k + 1 => by
    have ih0 := laws_heldReplicaS.mono_l k
    · intro y0 y1 y2
      unfold laws_heldReplicaS.l0
      repeat' first
      | (with_reducible exact ih0 _ _ _)
      | (with_reducible exact laws_heldRowSS.mono _ _ _)
      | (with_reducible exact LeO.refl _)
      | (with_reducible exact LeO.none _)
      | (with_reducible refine LeO.ite ?_ ?_)
      | (with_reducible refine LeO.bind ?_ (fun _ => ?_))
      | exact ih0 _ _ _
      | exact laws_heldRowSS.mono _ _ _
      | exact LeO.none _
      | refine LeO.ite ?_ ?_
      | refine LeO.bind ?_ (fun _ => ?_)
theorem laws_heldReplicaS.mono : ∀ a0 a1 k, LeO (laws_heldReplicaS.f k a0 a1) (laws_heldReplicaS.f (k + 1) a0 a1) := by
  intro a0 a1 k
  have ih0 := laws_heldReplicaS.mono_l k
  unfold laws_heldReplicaS.f
  repeat' first
      | (with_reducible exact ih0 _ _ _)
      | (with_reducible exact laws_heldRowSS.mono _ _ _)
      | (with_reducible exact LeO.refl _)
      | (with_reducible exact LeO.none _)
      | (with_reducible refine LeO.ite ?_ ?_)
      | (with_reducible refine LeO.bind ?_ (fun _ => ?_))
      | exact ih0 _ _ _
      | exact laws_heldRowSS.mono _ _ _
      | exact LeO.none _
      | refine LeO.ite ?_ ?_
      | refine LeO.bind ?_ (fun _ => ?_)
set_option maxHeartbeats 8000000 in
set_option maxRecDepth 100000 in
theorem laws_heldReplicaS.calls (k : Nat) (A0 : Option Addr) (c0 : Nat) (l0 : List (S70)) (a1 : Int) (r : Int) (w : World) (hr0 : Kd.C k70 w A0 l0.length l0) (hc0 : l0.length ≤ c0) (h : laws_heldReplicaS.f k l0 a1 = some r) :
    Calls Try.prog 44 #[.slice A0 l0.length c0, .int .i64 a1] w fun e w' => e = .returned (.int .i64 r) ∧ Drawn0 w w' := by
  have HR0 := Aside0.mk hr0
  have HC0 := Aside0.mk hc0
  clear hr0 hc0
  have H : (laws_heldReplicaS.l0 k l0 a1 0) = some r := h
  clear h
  have H' := Aside0.mk H
  clear H
  go_enter Try.func44, Try.ntmps44
  go_wp2
  go_loopg [1, 5] k (fun kq v1 v5 w' => ∃ (x1_1 : Int) (x5_1 : Int), v1 = .int .i64 x1_1 ∧ v5 = .int .i64 x5_1 ∧ Aside0 (laws_heldReplicaS.l0 kq l0 x1_1 x5_1 = some r) ∧ Aside0 (kq ≤ k) ∧ Drawn0 w w')
  case atStart => exact ⟨(a1), (0), (by first | rfl | (simp; done) | (simp [*]; done)), (by first | rfl | (simp; done) | (simp [*]; done)), H', ⟨Nat.le_refl _⟩, by repeat (first | exact Drawn0.refl _ | apply Drawn0.step)⟩
  case round =>
    clear H'
    try clear p2
    obtain ⟨x1_1, x5_1, rfl, rfl, HA, HK1, ⟨m1, rfl⟩⟩ := hrel
    cases gk with
    | zero => exact absurd HA.out (by simp [laws_heldReplicaS.l0])
    | succ k1 =>
      have H := HA.out
      clear HA
      simp only [laws_heldReplicaS.l0] at H
      by_cases c3 : x5_1 < (l0.length : Int)
      · rw [if_pos c3] at H
        have c3b0 : decide (x5_1 < (l0.length : Int)) = true := decide_eq_true c3
        clear c3
        by_cases c4 : 0 ≤ x5_1
        · rw [if_pos c4] at H
          have c4b0 : decide (0 ≤ x5_1) = true := decide_eq_true c4
          clear c4
          by_cases c5 : ((rd_T70 l0 x5_1).f0) = x1_1
          · rw [if_pos c5] at H
            have c5b0 : (((rd_T70 l0 x5_1).f0) == x1_1) = true := beq_iff_eq.mpr c5
            have c5b1 : (((rd_T70 l0 x5_1).f0) != x1_1) = false := bne_eq_false_iff_eq.mpr c5
            clear c5
            by_cases c6 : ((rd_T70 l0 x5_1).f1.f0) = (wrap64 (x1_1 + 1))
            · rw [if_pos c6] at H
              have c6b0 : (((rd_T70 l0 x5_1).f1.f0) == (wrap64 (x1_1 + 1))) = true := beq_iff_eq.mpr c6
              have c6b1 : (((rd_T70 l0 x5_1).f1.f0) != (wrap64 (x1_1 + 1))) = false := bne_eq_false_iff_eq.mpr c6
              clear c6
              replace H := Option.bind_eq_some_iff.mp H
              obtain ⟨t173, A70, H⟩ := H
              replace H : (if t173 < 0 then (some (-1)) else ((laws_heldLeadS.f ((rd_T70 l0 x5_1).f2) t173).bind fun t175 => (if t175 < 0 then (some (-1)) else (laws_heldReplicaS.l0 k1 l0 t175 (wrap64 (x5_1 + 1)))))) = some r := H
              have A7 := Aside0.mk A70
              clear A70
              by_cases c8 : t173 < 0
              · rw [if_pos c8] at H
                have c8b0 : decide (t173 < 0) = true := decide_eq_true c8
                clear c8
                obtain rfl := Option.some.inj H
                have p170 : 0 ≤ (x5_1 : Int) := of_decide_eq_true (by first | (with_reducible assumption) | assumption)
                have q170 : x5_1 < (l0.length : Int) := of_decide_eq_true (by first | (with_reducible assumption) | assumption)
                obtain ⟨ad170, A170_2, c170_2, A170_3, c170_3, e170, hx170_0, hx170_1, hx170_2, hx170_3, hl170_2, hi170_2, hl170_3, hi170_3⟩ := at_T70 HR0.out x5_1 p170 q170
                cases e170
                have HR170_2 := Aside0.mk hi170_2
                have HC170_2 := Aside0.mk hl170_2
                clear hi170_2 hl170_2
                have HR170_3 := Aside0.mk hi170_3
                have HC170_3 := Aside0.mk hl170_3
                clear hi170_3 hl170_3
                replace p170 := eq_true p170
                replace q170 := eq_true q170
                have p171 : 0 ≤ (x5_1 : Int) := of_decide_eq_true (by first | (with_reducible assumption) | assumption)
                have q171 : x5_1 < (l0.length : Int) := of_decide_eq_true (by first | (with_reducible assumption) | assumption)
                obtain ⟨ad171, A171_2, c171_2, A171_3, c171_3, e171, hx171_0, hx171_1, hx171_2, hx171_3, hl171_2, hi171_2, hl171_3, hi171_3⟩ := at_T70 HR0.out x5_1 p171 q171
                obtain rfl : ad170 = ad171 := (by injection e171)
                have HR171_2 := Aside0.mk hi171_2
                have HC171_2 := Aside0.mk hl171_2
                clear hi171_2 hl171_2
                have HR171_3 := Aside0.mk hi171_3
                have HC171_3 := Aside0.mk hl171_3
                clear hi171_3 hl171_3
                replace p171 := eq_true p171
                replace q171 := eq_true q171
                have ea_ := Option.some.inj (hx170_2.symm.trans hx171_2)
                injection ea_ with ea_ en_ ec_
                subst ea_
                subst ec_
                clear en_
                have ea_ := Option.some.inj (hx170_3.symm.trans hx171_3)
                injection ea_ with ea_ en_ ec_
                subst ea_
                subst ec_
                clear en_
                have p172 : 0 ≤ (x5_1 : Int) := of_decide_eq_true (by first | (with_reducible assumption) | assumption)
                have q172 : x5_1 < (l0.length : Int) := of_decide_eq_true (by first | (with_reducible assumption) | assumption)
                obtain ⟨ad172, A172_2, c172_2, A172_3, c172_3, e172, hx172_0, hx172_1, hx172_2, hx172_3, hl172_2, hi172_2, hl172_3, hi172_3⟩ := at_T70 HR0.out x5_1 p172 q172
                obtain rfl : ad170 = ad172 := (by injection e172)
                have HR172_2 := Aside0.mk hi172_2
                have HC172_2 := Aside0.mk hl172_2
                clear hi172_2 hl172_2
                have HR172_3 := Aside0.mk hi172_3
                have HC172_3 := Aside0.mk hl172_3
                clear hi172_3 hl172_3
                replace p172 := eq_true p172
                replace q172 := eq_true q172
                have ea_ := Option.some.inj (hx170_2.symm.trans hx172_2)
                injection ea_ with ea_ en_ ec_
                subst ea_
                subst ec_
                clear en_
                have ea_ := Option.some.inj (hx170_3.symm.trans hx172_3)
                injection ea_ with ea_ en_ ec_
                subst ea_
                subst ec_
                clear en_
                go_wp2_with (first | ((with_reducible refine gate_callee (f := 68) rfl ?_); refine goesL_ (some 38) rfl rfl Try.func68 (by kernel_rfl) rfl #[.slice A170_2 ((rd_T70 l0 x5_1).f1.f1).length c170_2, .int .i64 (wrap64 ((wrap64 (x1_1 + 1)) + 1))] rfl (by (try simp only [List.map_toArray, List.map_cons, List.map_nil]); first | done | rfl | (simp only [List.length_drop, List.length_take]; rfl)) ?_; (with_reducible refine (laws_heldRowSS.calls k1 _ _ ((rd_T70 l0 x5_1).f1.f1) (wrap64 ((wrap64 (x1_1 + 1)) + 1)) t173 _ ?side1 ?side2 A7.out).mono ?_); (case side1 => repeat (first | exact HR172_2.out | (with_reducible refine Kd.C_alloc ?_ _) | (with_reducible refine Kd.C_drewN ?_ _) | (with_reducible refine Kd.C_drew ?_))); (case side2 => exact HC172_2.out); rintro e w' ⟨rfl, ⟨nd, rfl⟩⟩; refine ⟨_, rfl, ?_⟩))
                go_ret
                exact ⟨by first | rfl | (simp; done) | (simp [*]; done), by repeat (first | exact Drawn0.refl _ | apply Drawn0.step)⟩
              · rw [if_neg c8] at H
                have c8b0 : decide (t173 < 0) = false := decide_eq_false c8
                clear c8
                replace H := Option.bind_eq_some_iff.mp H
                obtain ⟨t175, A90, H⟩ := H
                replace H : (if t175 < 0 then (some (-1)) else (laws_heldReplicaS.l0 k1 l0 t175 (wrap64 (x5_1 + 1)))) = some r := H
                have A9 := Aside0.mk A90
                clear A90
                by_cases c10 : t175 < 0
                · rw [if_pos c10] at H
                  have c10b0 : decide (t175 < 0) = true := decide_eq_true c10
                  clear c10
                  obtain rfl := Option.some.inj H
                  have p170 : 0 ≤ (x5_1 : Int) := of_decide_eq_true (by first | (with_reducible assumption) | assumption)
                  have q170 : x5_1 < (l0.length : Int) := of_decide_eq_true (by first | (with_reducible assumption) | assumption)
                  obtain ⟨ad170, A170_2, c170_2, A170_3, c170_3, e170, hx170_0, hx170_1, hx170_2, hx170_3, hl170_2, hi170_2, hl170_3, hi170_3⟩ := at_T70 HR0.out x5_1 p170 q170
                  cases e170
                  have HR170_2 := Aside0.mk hi170_2
                  have HC170_2 := Aside0.mk hl170_2
                  clear hi170_2 hl170_2
                  have HR170_3 := Aside0.mk hi170_3
                  have HC170_3 := Aside0.mk hl170_3
                  clear hi170_3 hl170_3
                  replace p170 := eq_true p170
                  replace q170 := eq_true q170
                  have p171 : 0 ≤ (x5_1 : Int) := of_decide_eq_true (by first | (with_reducible assumption) | assumption)
                  have q171 : x5_1 < (l0.length : Int) := of_decide_eq_true (by first | (with_reducible assumption) | assumption)
                  obtain ⟨ad171, A171_2, c171_2, A171_3, c171_3, e171, hx171_0, hx171_1, hx171_2, hx171_3, hl171_2, hi171_2, hl171_3, hi171_3⟩ := at_T70 HR0.out x5_1 p171 q171
                  obtain rfl : ad170 = ad171 := (by injection e171)
                  have HR171_2 := Aside0.mk hi171_2
                  have HC171_2 := Aside0.mk hl171_2
                  clear hi171_2 hl171_2
                  have HR171_3 := Aside0.mk hi171_3
                  have HC171_3 := Aside0.mk hl171_3
                  clear hi171_3 hl171_3
                  replace p171 := eq_true p171
                  replace q171 := eq_true q171
                  have ea_ := Option.some.inj (hx170_2.symm.trans hx171_2)
                  injection ea_ with ea_ en_ ec_
                  subst ea_
                  subst ec_
                  clear en_
                  have ea_ := Option.some.inj (hx170_3.symm.trans hx171_3)
                  injection ea_ with ea_ en_ ec_
                  subst ea_
                  subst ec_
                  clear en_
                  have p172 : 0 ≤ (x5_1 : Int) := of_decide_eq_true (by first | (with_reducible assumption) | assumption)
                  have q172 : x5_1 < (l0.length : Int) := of_decide_eq_true (by first | (with_reducible assumption) | assumption)
                  obtain ⟨ad172, A172_2, c172_2, A172_3, c172_3, e172, hx172_0, hx172_1, hx172_2, hx172_3, hl172_2, hi172_2, hl172_3, hi172_3⟩ := at_T70 HR0.out x5_1 p172 q172
                  obtain rfl : ad170 = ad172 := (by injection e172)
                  have HR172_2 := Aside0.mk hi172_2
                  have HC172_2 := Aside0.mk hl172_2
                  clear hi172_2 hl172_2
                  have HR172_3 := Aside0.mk hi172_3
                  have HC172_3 := Aside0.mk hl172_3
                  clear hi172_3 hl172_3
                  replace p172 := eq_true p172
                  replace q172 := eq_true q172
                  have ea_ := Option.some.inj (hx170_2.symm.trans hx172_2)
                  injection ea_ with ea_ en_ ec_
                  subst ea_
                  subst ec_
                  clear en_
                  have ea_ := Option.some.inj (hx170_3.symm.trans hx172_3)
                  injection ea_ with ea_ en_ ec_
                  subst ea_
                  subst ec_
                  clear en_
                  go_wp2_with (first | ((with_reducible refine gate_callee (f := 68) rfl ?_); refine goesL_ (some 38) rfl rfl Try.func68 (by kernel_rfl) rfl #[.slice A170_2 ((rd_T70 l0 x5_1).f1.f1).length c170_2, .int .i64 (wrap64 ((wrap64 (x1_1 + 1)) + 1))] rfl (by (try simp only [List.map_toArray, List.map_cons, List.map_nil]); first | done | rfl | (simp only [List.length_drop, List.length_take]; rfl)) ?_; (with_reducible refine (laws_heldRowSS.calls k1 _ _ ((rd_T70 l0 x5_1).f1.f1) (wrap64 ((wrap64 (x1_1 + 1)) + 1)) t173 _ ?side1 ?side2 A7.out).mono ?_); (case side1 => repeat (first | exact HR172_2.out | (with_reducible refine Kd.C_alloc ?_ _) | (with_reducible refine Kd.C_drewN ?_ _) | (with_reducible refine Kd.C_drew ?_))); (case side2 => exact HC172_2.out); rintro e w' ⟨rfl, ⟨nd, rfl⟩⟩; refine ⟨_, rfl, ?_⟩; have p174 : 0 ≤ (x5_1 : Int) := of_decide_eq_true (by first | (with_reducible assumption) | assumption); have q174 : x5_1 < (l0.length : Int) := of_decide_eq_true (by first | (with_reducible assumption) | assumption); obtain ⟨ad174, A174_2, c174_2, A174_3, c174_3, e174, hx174_0, hx174_1, hx174_2, hx174_3, hl174_2, hi174_2, hl174_3, hi174_3⟩ := at_T70 HR0.out x5_1 p174 q174; obtain rfl : ad170 = ad174 := (by injection e174); have HR174_2 := Aside0.mk hi174_2; have HC174_2 := Aside0.mk hl174_2; clear hi174_2 hl174_2; have HR174_3 := Aside0.mk hi174_3; have HC174_3 := Aside0.mk hl174_3; clear hi174_3 hl174_3; replace p174 := eq_true p174; replace q174 := eq_true q174; have ea_ := Option.some.inj (hx170_2.symm.trans hx174_2); injection ea_ with ea_ en_ ec_; subst ea_; subst ec_; clear en_; have ea_ := Option.some.inj (hx170_3.symm.trans hx174_3); injection ea_ with ea_ en_ ec_; subst ea_; subst ec_; clear en_) | ((with_reducible refine gate_callee (f := 69) rfl ?_); refine goesL_ (some 47) rfl rfl Try.func69 (by kernel_rfl) rfl #[.slice A170_3 ((rd_T70 l0 x5_1).f2).length c170_3, .int .i64 t173] rfl (by (try simp only [List.map_toArray, List.map_cons, List.map_nil]); first | done | rfl | (simp only [List.length_drop, List.length_take]; rfl)) ?_; (with_reducible refine (laws_heldLeadS.calls _ _ ((rd_T70 l0 x5_1).f2) t173 t175 _ ?side1 ?side2 A9.out).mono ?_); (case side1 => repeat (first | exact HR174_3.out | (with_reducible refine Kd.C_alloc ?_ _) | (with_reducible refine Kd.C_drewN ?_ _) | (with_reducible refine Kd.C_drew ?_))); (case side2 => exact HC174_3.out); rintro e w' ⟨rfl, ⟨nd, rfl⟩⟩; refine ⟨_, rfl, ?_⟩))
                  go_ret
                  exact ⟨by first | rfl | (simp; done) | (simp [*]; done), by repeat (first | exact Drawn0.refl _ | apply Drawn0.step)⟩
                · rw [if_neg c10] at H
                  have c10b0 : decide (t175 < 0) = false := decide_eq_false c10
                  clear c10
                  have H' := Aside0.mk H
                  clear H
                  have p170 : 0 ≤ (x5_1 : Int) := of_decide_eq_true (by first | (with_reducible assumption) | assumption)
                  have q170 : x5_1 < (l0.length : Int) := of_decide_eq_true (by first | (with_reducible assumption) | assumption)
                  obtain ⟨ad170, A170_2, c170_2, A170_3, c170_3, e170, hx170_0, hx170_1, hx170_2, hx170_3, hl170_2, hi170_2, hl170_3, hi170_3⟩ := at_T70 HR0.out x5_1 p170 q170
                  cases e170
                  have HR170_2 := Aside0.mk hi170_2
                  have HC170_2 := Aside0.mk hl170_2
                  clear hi170_2 hl170_2
                  have HR170_3 := Aside0.mk hi170_3
                  have HC170_3 := Aside0.mk hl170_3
                  clear hi170_3 hl170_3
                  replace p170 := eq_true p170
                  replace q170 := eq_true q170
                  have p171 : 0 ≤ (x5_1 : Int) := of_decide_eq_true (by first | (with_reducible assumption) | assumption)
                  have q171 : x5_1 < (l0.length : Int) := of_decide_eq_true (by first | (with_reducible assumption) | assumption)
                  obtain ⟨ad171, A171_2, c171_2, A171_3, c171_3, e171, hx171_0, hx171_1, hx171_2, hx171_3, hl171_2, hi171_2, hl171_3, hi171_3⟩ := at_T70 HR0.out x5_1 p171 q171
                  obtain rfl : ad170 = ad171 := (by injection e171)
                  have HR171_2 := Aside0.mk hi171_2
                  have HC171_2 := Aside0.mk hl171_2
                  clear hi171_2 hl171_2
                  have HR171_3 := Aside0.mk hi171_3
                  have HC171_3 := Aside0.mk hl171_3
                  clear hi171_3 hl171_3
                  replace p171 := eq_true p171
                  replace q171 := eq_true q171
                  have ea_ := Option.some.inj (hx170_2.symm.trans hx171_2)
                  injection ea_ with ea_ en_ ec_
                  subst ea_
                  subst ec_
                  clear en_
                  have ea_ := Option.some.inj (hx170_3.symm.trans hx171_3)
                  injection ea_ with ea_ en_ ec_
                  subst ea_
                  subst ec_
                  clear en_
                  have p172 : 0 ≤ (x5_1 : Int) := of_decide_eq_true (by first | (with_reducible assumption) | assumption)
                  have q172 : x5_1 < (l0.length : Int) := of_decide_eq_true (by first | (with_reducible assumption) | assumption)
                  obtain ⟨ad172, A172_2, c172_2, A172_3, c172_3, e172, hx172_0, hx172_1, hx172_2, hx172_3, hl172_2, hi172_2, hl172_3, hi172_3⟩ := at_T70 HR0.out x5_1 p172 q172
                  obtain rfl : ad170 = ad172 := (by injection e172)
                  have HR172_2 := Aside0.mk hi172_2
                  have HC172_2 := Aside0.mk hl172_2
                  clear hi172_2 hl172_2
                  have HR172_3 := Aside0.mk hi172_3
                  have HC172_3 := Aside0.mk hl172_3
                  clear hi172_3 hl172_3
                  replace p172 := eq_true p172
                  replace q172 := eq_true q172
                  have ea_ := Option.some.inj (hx170_2.symm.trans hx172_2)
                  injection ea_ with ea_ en_ ec_
                  subst ea_
                  subst ec_
                  clear en_
                  have ea_ := Option.some.inj (hx170_3.symm.trans hx172_3)
                  injection ea_ with ea_ en_ ec_
                  subst ea_
                  subst ec_
                  clear en_
                  go_wp2_with (first | ((with_reducible refine gate_callee (f := 68) rfl ?_); refine goesL_ (some 38) rfl rfl Try.func68 (by kernel_rfl) rfl #[.slice A170_2 ((rd_T70 l0 x5_1).f1.f1).length c170_2, .int .i64 (wrap64 ((wrap64 (x1_1 + 1)) + 1))] rfl (by (try simp only [List.map_toArray, List.map_cons, List.map_nil]); first | done | rfl | (simp only [List.length_drop, List.length_take]; rfl)) ?_; (with_reducible refine (laws_heldRowSS.calls k1 _ _ ((rd_T70 l0 x5_1).f1.f1) (wrap64 ((wrap64 (x1_1 + 1)) + 1)) t173 _ ?side1 ?side2 A7.out).mono ?_); (case side1 => repeat (first | exact HR172_2.out | (with_reducible refine Kd.C_alloc ?_ _) | (with_reducible refine Kd.C_drewN ?_ _) | (with_reducible refine Kd.C_drew ?_))); (case side2 => exact HC172_2.out); rintro e w' ⟨rfl, ⟨nd, rfl⟩⟩; refine ⟨_, rfl, ?_⟩; have p174 : 0 ≤ (x5_1 : Int) := of_decide_eq_true (by first | (with_reducible assumption) | assumption); have q174 : x5_1 < (l0.length : Int) := of_decide_eq_true (by first | (with_reducible assumption) | assumption); obtain ⟨ad174, A174_2, c174_2, A174_3, c174_3, e174, hx174_0, hx174_1, hx174_2, hx174_3, hl174_2, hi174_2, hl174_3, hi174_3⟩ := at_T70 HR0.out x5_1 p174 q174; obtain rfl : ad170 = ad174 := (by injection e174); have HR174_2 := Aside0.mk hi174_2; have HC174_2 := Aside0.mk hl174_2; clear hi174_2 hl174_2; have HR174_3 := Aside0.mk hi174_3; have HC174_3 := Aside0.mk hl174_3; clear hi174_3 hl174_3; replace p174 := eq_true p174; replace q174 := eq_true q174; have ea_ := Option.some.inj (hx170_2.symm.trans hx174_2); injection ea_ with ea_ en_ ec_; subst ea_; subst ec_; clear en_; have ea_ := Option.some.inj (hx170_3.symm.trans hx174_3); injection ea_ with ea_ en_ ec_; subst ea_; subst ec_; clear en_) | ((with_reducible refine gate_callee (f := 69) rfl ?_); refine goesL_ (some 47) rfl rfl Try.func69 (by kernel_rfl) rfl #[.slice A170_3 ((rd_T70 l0 x5_1).f2).length c170_3, .int .i64 t173] rfl (by (try simp only [List.map_toArray, List.map_cons, List.map_nil]); first | done | rfl | (simp only [List.length_drop, List.length_take]; rfl)) ?_; (with_reducible refine (laws_heldLeadS.calls _ _ ((rd_T70 l0 x5_1).f2) t173 t175 _ ?side1 ?side2 A9.out).mono ?_); (case side1 => repeat (first | exact HR174_3.out | (with_reducible refine Kd.C_alloc ?_ _) | (with_reducible refine Kd.C_drewN ?_ _) | (with_reducible refine Kd.C_drew ?_))); (case side2 => exact HC174_3.out); rintro e w' ⟨rfl, ⟨nd, rfl⟩⟩; refine ⟨_, rfl, ?_⟩))
                  go_roundg k1
                  case measure => have := HK1.out; omega
                  case rel => exact ⟨(t175), (wrap64 (x5_1 + 1)), (by first | rfl | (simp; done) | (simp [*]; done)), (by first | rfl | (simp; done) | (simp [*]; done)), H', ⟨by have := HK1.out; omega⟩, by repeat (first | exact Drawn0.refl _ | apply Drawn0.step)⟩
            · rw [if_neg c6] at H
              have c6b0 : (((rd_T70 l0 x5_1).f1.f0) == (wrap64 (x1_1 + 1))) = false := beq_eq_false_iff_ne.mpr c6
              have c6b1 : (((rd_T70 l0 x5_1).f1.f0) != (wrap64 (x1_1 + 1))) = true := bne_iff_ne.mpr c6
              obtain rfl := Option.some.inj H
              have p170 : 0 ≤ (x5_1 : Int) := of_decide_eq_true (by first | (with_reducible assumption) | assumption)
              have q170 : x5_1 < (l0.length : Int) := of_decide_eq_true (by first | (with_reducible assumption) | assumption)
              obtain ⟨ad170, A170_2, c170_2, A170_3, c170_3, e170, hx170_0, hx170_1, hx170_2, hx170_3, hl170_2, hi170_2, hl170_3, hi170_3⟩ := at_T70 HR0.out x5_1 p170 q170
              cases e170
              have HR170_2 := Aside0.mk hi170_2
              have HC170_2 := Aside0.mk hl170_2
              clear hi170_2 hl170_2
              have HR170_3 := Aside0.mk hi170_3
              have HC170_3 := Aside0.mk hl170_3
              clear hi170_3 hl170_3
              replace p170 := eq_true p170
              replace q170 := eq_true q170
              have p171 : 0 ≤ (x5_1 : Int) := of_decide_eq_true (by first | (with_reducible assumption) | assumption)
              have q171 : x5_1 < (l0.length : Int) := of_decide_eq_true (by first | (with_reducible assumption) | assumption)
              obtain ⟨ad171, A171_2, c171_2, A171_3, c171_3, e171, hx171_0, hx171_1, hx171_2, hx171_3, hl171_2, hi171_2, hl171_3, hi171_3⟩ := at_T70 HR0.out x5_1 p171 q171
              obtain rfl : ad170 = ad171 := (by injection e171)
              have HR171_2 := Aside0.mk hi171_2
              have HC171_2 := Aside0.mk hl171_2
              clear hi171_2 hl171_2
              have HR171_3 := Aside0.mk hi171_3
              have HC171_3 := Aside0.mk hl171_3
              clear hi171_3 hl171_3
              replace p171 := eq_true p171
              replace q171 := eq_true q171
              have ea_ := Option.some.inj (hx170_2.symm.trans hx171_2)
              injection ea_ with ea_ en_ ec_
              subst ea_
              subst ec_
              clear en_
              have ea_ := Option.some.inj (hx170_3.symm.trans hx171_3)
              injection ea_ with ea_ en_ ec_
              subst ea_
              subst ec_
              clear en_
              go_wp2
              go_ret
              exact ⟨by first | rfl | (simp; done) | (simp [*]; done), by repeat (first | exact Drawn0.refl _ | apply Drawn0.step)⟩
          · rw [if_neg c5] at H
            have c5b0 : (((rd_T70 l0 x5_1).f0) == x1_1) = false := beq_eq_false_iff_ne.mpr c5
            have c5b1 : (((rd_T70 l0 x5_1).f0) != x1_1) = true := bne_iff_ne.mpr c5
            obtain rfl := Option.some.inj H
            have p170 : 0 ≤ (x5_1 : Int) := of_decide_eq_true (by first | (with_reducible assumption) | assumption)
            have q170 : x5_1 < (l0.length : Int) := of_decide_eq_true (by first | (with_reducible assumption) | assumption)
            obtain ⟨ad170, A170_2, c170_2, A170_3, c170_3, e170, hx170_0, hx170_1, hx170_2, hx170_3, hl170_2, hi170_2, hl170_3, hi170_3⟩ := at_T70 HR0.out x5_1 p170 q170
            cases e170
            have HR170_2 := Aside0.mk hi170_2
            have HC170_2 := Aside0.mk hl170_2
            clear hi170_2 hl170_2
            have HR170_3 := Aside0.mk hi170_3
            have HC170_3 := Aside0.mk hl170_3
            clear hi170_3 hl170_3
            replace p170 := eq_true p170
            replace q170 := eq_true q170
            go_wp2
            go_ret
            exact ⟨by first | rfl | (simp; done) | (simp [*]; done), by repeat (first | exact Drawn0.refl _ | apply Drawn0.step)⟩
        · rw [if_neg c4] at H
          exact absurd H (by simp)
      · rw [if_neg c3] at H
        have c3b0 : decide (x5_1 < (l0.length : Int)) = false := decide_eq_false c3
        clear c3
        obtain rfl := Option.some.inj H
        go_wp2
        go_ret
        exact ⟨by first | rfl | (simp; done) | (simp [*]; done), by repeat (first | exact Drawn0.refl _ | apply Drawn0.step)⟩

/-! ### laws_heldMsgS: function 45 -/
def laws_heldMsgS.f (l0 : List S94) (a1 : Int) : Option Int := if l0.length = 0 then some a1 else none
set_option maxHeartbeats 2000000 in
set_option maxRecDepth 100000 in
theorem laws_heldMsgS.calls (A0 : Option Addr) (c0 : Nat) (l0 : List S94) (a1 : Int) (r : Int) (w : World) (hr0 : Kd.C k94 w A0 l0.length l0) (hc0 : l0.length ≤ c0) (h : laws_heldMsgS.f l0 a1 = some r) :
    Calls Try.prog 45 #[.slice A0 l0.length c0, .int .i64 a1] w fun e w' => e = .returned (.int .i64 r) ∧ Drawn0 w w' := by
  unfold laws_heldMsgS.f at h
  by_cases hl : l0.length = 0
  · rw [if_pos hl] at h
    obtain rfl : a1 = r := Option.some.inj h
    rw [hl]
    clear h hr0 hc0 hl
    go_enter Try.func45, Try.ntmps45
    go_wp2
    go_loopg [1, 5] 0 (fun gg s1 s5 wr => s1 = .int .i64 a1 ∧ s5 = .int .i64 0 ∧ Drawn0 w wr)
    case atStart => exact ⟨rfl, rfl, by repeat (first | exact Drawn0.refl _ | apply Drawn0.step)⟩
    case round =>
      obtain ⟨rfl, rfl, m1, rfl⟩ := hrel
      go_wp2
      go_ret
      exact ⟨rfl, by repeat (first | exact Drawn0.refl _ | apply Drawn0.step)⟩
  · rw [if_neg hl] at h
    cases h

/-! ### laws_heldAskedS: function 46 -/
def laws_heldAskedS.f (l0 : List S97) (a1 : Int) : Option Int := if l0.length = 0 then some a1 else none
set_option maxHeartbeats 2000000 in
set_option maxRecDepth 100000 in
theorem laws_heldAskedS.calls (A0 : Option Addr) (c0 : Nat) (l0 : List S97) (a1 : Int) (r : Int) (w : World) (hr0 : Kd.C k97 w A0 l0.length l0) (hc0 : l0.length ≤ c0) (h : laws_heldAskedS.f l0 a1 = some r) :
    Calls Try.prog 46 #[.slice A0 l0.length c0, .int .i64 a1] w fun e w' => e = .returned (.int .i64 r) ∧ Drawn0 w w' := by
  unfold laws_heldAskedS.f at h
  by_cases hl : l0.length = 0
  · rw [if_pos hl] at h
    obtain rfl : a1 = r := Option.some.inj h
    rw [hl]
    clear h hr0 hc0 hl
    go_enter Try.func46, Try.ntmps46
    go_wp2
    go_loopg [1, 5] 0 (fun gg s1 s5 wr => s1 = .int .i64 a1 ∧ s5 = .int .i64 0 ∧ Drawn0 w wr)
    case atStart => exact ⟨rfl, rfl, by repeat (first | exact Drawn0.refl _ | apply Drawn0.step)⟩
    case round =>
      obtain ⟨rfl, rfl, m1, rfl⟩ := hrel
      go_wp2
      go_ret
      exact ⟨rfl, by repeat (first | exact Drawn0.refl _ | apply Drawn0.step)⟩
  · rw [if_neg hl] at h
    cases h

/-! ### laws_heldNet: function 19 -/
def laws_heldNet.f (k : Nat) (l0_0 : List (S70)) (l0_1 : List (S94)) (l0_2 : List (S97)) (a1 : Int) : Option (Int) := (laws_heldReplicaS.f k l0_0 a1).bind fun t177 => (if t177 < 0 then (some (-1)) else ((laws_heldMsgS.f l0_1 t177).bind fun t178 => (if t178 < 0 then (some (-1)) else ((laws_heldAskedS.f l0_2 t178).bind fun t179 => (if t179 < 0 then (some (-1)) else (some t179))))))
theorem laws_heldNet.mono : ∀ a0 a1 a2 a3 k, LeO (laws_heldNet.f k a0 a1 a2 a3) (laws_heldNet.f (k + 1) a0 a1 a2 a3) := by
  intro a0 a1 a2 a3 k
  unfold laws_heldNet.f
  repeat' first
      | (with_reducible exact laws_heldReplicaS.mono _ _ _)
      | (with_reducible exact LeO.refl _)
      | (with_reducible exact LeO.none _)
      | (with_reducible refine LeO.ite ?_ ?_)
      | (with_reducible refine LeO.bind ?_ (fun _ => ?_))
      | exact laws_heldReplicaS.mono _ _ _
      | exact LeO.none _
      | refine LeO.ite ?_ ?_
      | refine LeO.bind ?_ (fun _ => ?_)
set_option maxHeartbeats 8000000 in
set_option maxRecDepth 100000 in
theorem laws_heldNet.calls (k : Nat) (A0_0 : Option Addr) (c0_0 : Nat) (l0_0 : List (S70)) (A0_1 : Option Addr) (c0_1 : Nat) (l0_1 : List (S94)) (A0_2 : Option Addr) (c0_2 : Nat) (l0_2 : List (S97)) (a1 : Int) (r : Int) (w : World) (hr0_0 : Kd.C k70 w A0_0 l0_0.length l0_0) (hc0_0 : l0_0.length ≤ c0_0) (hr0_1 : Kd.C k94 w A0_1 l0_1.length l0_1) (hc0_1 : l0_1.length ≤ c0_1) (hr0_2 : Kd.C k97 w A0_2 l0_2.length l0_2) (hc0_2 : l0_2.length ≤ c0_2) (h : laws_heldNet.f k l0_0 l0_1 l0_2 a1 = some r) :
    Calls Try.prog 19 #[.agg #[.slice A0_0 l0_0.length c0_0, .slice A0_1 l0_1.length c0_1, .slice A0_2 l0_2.length c0_2], .int .i64 a1] w fun e w' => e = .returned (.int .i64 r) ∧ Below w.heap.size w w' := by
  have hu38 := Try.underlying38
  have HR0_0 := Aside0.mk hr0_0
  have HC0_0 := Aside0.mk hc0_0
  clear hr0_0 hc0_0
  have HR0_1 := Aside0.mk hr0_1
  have HC0_1 := Aside0.mk hc0_1
  clear hr0_1 hc0_1
  have HR0_2 := Aside0.mk hr0_2
  have HC0_2 := Aside0.mk hc0_2
  clear hr0_2 hc0_2
  have HB := Aside0.mk (Below.refl w.heap.size w)
  have H : ((laws_heldReplicaS.f k l0_0 a1).bind fun t177 => (if t177 < 0 then (some (-1)) else ((laws_heldMsgS.f l0_1 t177).bind fun t178 => (if t178 < 0 then (some (-1)) else ((laws_heldAskedS.f l0_2 t178).bind fun t179 => (if t179 < 0 then (some (-1)) else (some t179))))))) = some r := h
  clear h
  replace H := Option.bind_eq_some_iff.mp H
  obtain ⟨t177, A30, H⟩ := H
  replace H : (if t177 < 0 then (some (-1)) else ((laws_heldMsgS.f l0_1 t177).bind fun t178 => (if t178 < 0 then (some (-1)) else ((laws_heldAskedS.f l0_2 t178).bind fun t179 => (if t179 < 0 then (some (-1)) else (some t179)))))) = some r := H
  have A3 := Aside0.mk A30
  clear A30
  by_cases c4 : t177 < 0
  · rw [if_pos c4] at H
    have c4b0 : decide (t177 < 0) = true := decide_eq_true c4
    clear c4
    obtain rfl := Option.some.inj H
    go_enter Try.func19, Try.ntmps19
    go_wp2_with (first | ((with_reducible refine gate_dst (N := 2) rfl ?_); refine box_event ?hg (N := 2) ?hd (cs := #[.slice A0_0 l0_0.length c0_0, .slice A0_1 l0_1.length c0_1, .slice A0_2 l0_2.length c0_2]) (t := 38) ?hr ?_; (case hd => rfl); (case hg => rfl); (case hr => first | (go_simp; done) | (go_simp; rfl)); intro gb176 hg w5 hbox hb; have n0_ := Aside0.mk (below_step (by repeat (first | (with_reducible first | exact HB.out | apply below_alloc | apply pw_below_drewN | apply below_drew1) | exact HB.out)) hb); have n1_ := Aside0.mk (hbox); have n2_ := Aside0.mk ((by rw [hg]; exact (below_size (by repeat (first | (with_reducible first | exact HB.out | apply below_alloc | apply pw_below_drewN | apply below_drew1) | exact HB.out))) : w.heap.size ≤ gb176)); have n3_ := Aside0.mk ((by rw [hg]; exact (below_size (by repeat (first | (with_reducible first | exact HB.out | apply below_alloc | apply pw_below_drewN | apply below_drew1) | exact HB.out))) : w.heap.size ≤ gb176)); clear HB; have HB := n0_; have BK176 := n1_; have GW176 := n2_; have GE176 := n3_; clear n0_ n1_ n2_ n3_; clear hb hbox hg; have hcz6_0 : w5.cell? ⟨gb176, 0, none⟩ = some (.slice A0_0 l0_0.length c0_0) := (blk_cell BK176.out 0).trans rfl; have hcz6_1 : w5.cell? ⟨gb176, 1, none⟩ = some (.slice A0_1 l0_1.length c0_1) := (blk_cell BK176.out 1).trans rfl; have hcz6_2 : w5.cell? ⟨gb176, 2, none⟩ = some (.slice A0_2 l0_2.length c0_2) := (blk_cell BK176.out 2).trans rfl; have hfz6_0 := blk_frozen BK176.out 0; have hfz6_1 := blk_frozen BK176.out 1; have hfz6_2 := blk_frozen BK176.out 2) | ((with_reducible refine gate_callee (f := 44) rfl ?_); refine goesL_ (some 8) rfl rfl Try.func44 (by kernel_rfl) rfl #[.slice A0_0 l0_0.length c0_0, .int .i64 a1] rfl (by (try simp only [List.map_toArray, List.map_cons, List.map_nil]); first | done | rfl | (simp only [List.length_drop, List.length_take]; rfl)) ?_; (with_reducible refine (laws_heldReplicaS.calls k _ _ l0_0 a1 t177 _ ?side1 ?side2 A3.out).mono ?_); (case side1 => repeat (first | exact (Kd.C_below HR0_0.out HB.out) | (with_reducible refine Kd.C_alloc ?_ _) | (with_reducible refine Kd.C_drewN ?_ _) | (with_reducible refine Kd.C_drew ?_))); (case side2 => exact HC0_0.out); rintro e w' ⟨rfl, ⟨nd, rfl⟩⟩; refine ⟨_, rfl, ?_⟩))
    go_ret
    exact ⟨by first | rfl | (simp [errW_none, errW_some] <;> rfl) | (simp [*, errW_none, errW_some] <;> rfl), by repeat (first | (with_reducible first | exact HB.out | apply below_alloc | apply pw_below_drewN | apply below_drew1 | refine below_set ?_ GE176.out) | exact HB.out)⟩
  · rw [if_neg c4] at H
    have c4b0 : decide (t177 < 0) = false := decide_eq_false c4
    clear c4
    replace H := Option.bind_eq_some_iff.mp H
    obtain ⟨t178, A70, H⟩ := H
    replace H : (if t178 < 0 then (some (-1)) else ((laws_heldAskedS.f l0_2 t178).bind fun t179 => (if t179 < 0 then (some (-1)) else (some t179)))) = some r := H
    have A7 := Aside0.mk A70
    clear A70
    by_cases c8 : t178 < 0
    · rw [if_pos c8] at H
      have c8b0 : decide (t178 < 0) = true := decide_eq_true c8
      clear c8
      obtain rfl := Option.some.inj H
      go_enter Try.func19, Try.ntmps19
      go_wp2_with (first | ((with_reducible refine gate_dst (N := 2) rfl ?_); refine box_event ?hg (N := 2) ?hd (cs := #[.slice A0_0 l0_0.length c0_0, .slice A0_1 l0_1.length c0_1, .slice A0_2 l0_2.length c0_2]) (t := 38) ?hr ?_; (case hd => rfl); (case hg => rfl); (case hr => first | (go_simp; done) | (go_simp; rfl)); intro gb176 hg w9 hbox hb; have n0_ := Aside0.mk (below_step (by repeat (first | (with_reducible first | exact HB.out | apply below_alloc | apply pw_below_drewN | apply below_drew1) | exact HB.out)) hb); have n1_ := Aside0.mk (hbox); have n2_ := Aside0.mk ((by rw [hg]; exact (below_size (by repeat (first | (with_reducible first | exact HB.out | apply below_alloc | apply pw_below_drewN | apply below_drew1) | exact HB.out))) : w.heap.size ≤ gb176)); have n3_ := Aside0.mk ((by rw [hg]; exact (below_size (by repeat (first | (with_reducible first | exact HB.out | apply below_alloc | apply pw_below_drewN | apply below_drew1) | exact HB.out))) : w.heap.size ≤ gb176)); clear HB; have HB := n0_; have BK176 := n1_; have GW176 := n2_; have GE176 := n3_; clear n0_ n1_ n2_ n3_; clear hb hbox hg; have hcz10_0 : w9.cell? ⟨gb176, 0, none⟩ = some (.slice A0_0 l0_0.length c0_0) := (blk_cell BK176.out 0).trans rfl; have hcz10_1 : w9.cell? ⟨gb176, 1, none⟩ = some (.slice A0_1 l0_1.length c0_1) := (blk_cell BK176.out 1).trans rfl; have hcz10_2 : w9.cell? ⟨gb176, 2, none⟩ = some (.slice A0_2 l0_2.length c0_2) := (blk_cell BK176.out 2).trans rfl; have hfz10_0 := blk_frozen BK176.out 0; have hfz10_1 := blk_frozen BK176.out 1; have hfz10_2 := blk_frozen BK176.out 2) | ((with_reducible refine gate_callee (f := 44) rfl ?_); refine goesL_ (some 8) rfl rfl Try.func44 (by kernel_rfl) rfl #[.slice A0_0 l0_0.length c0_0, .int .i64 a1] rfl (by (try simp only [List.map_toArray, List.map_cons, List.map_nil]); first | done | rfl | (simp only [List.length_drop, List.length_take]; rfl)) ?_; (with_reducible refine (laws_heldReplicaS.calls k _ _ l0_0 a1 t177 _ ?side1 ?side2 A3.out).mono ?_); (case side1 => repeat (first | exact (Kd.C_below HR0_0.out HB.out) | (with_reducible refine Kd.C_alloc ?_ _) | (with_reducible refine Kd.C_drewN ?_ _) | (with_reducible refine Kd.C_drew ?_))); (case side2 => exact HC0_0.out); rintro e w' ⟨rfl, ⟨nd, rfl⟩⟩; refine ⟨_, rfl, ?_⟩) | ((with_reducible refine gate_callee (f := 45) rfl ?_); refine goesL_ (some 14) rfl rfl Try.func45 (by kernel_rfl) rfl #[.slice A0_1 l0_1.length c0_1, .int .i64 t177] rfl (by (try simp only [List.map_toArray, List.map_cons, List.map_nil]); first | done | rfl | (simp only [List.length_drop, List.length_take]; rfl)) ?_; (with_reducible refine (laws_heldMsgS.calls _ _ l0_1 t177 t178 _ ?side1 ?side2 A7.out).mono ?_); (case side1 => repeat (first | exact (Kd.C_below HR0_1.out (by repeat (first | (with_reducible first | exact HB.out | apply below_alloc | apply pw_below_drewN | apply below_drew1 | refine below_set ?_ GE176.out) | exact HB.out))) | (with_reducible refine Kd.C_alloc ?_ _) | (with_reducible refine Kd.C_drewN ?_ _) | (with_reducible refine Kd.C_drew ?_))); (case side2 => exact HC0_1.out); rintro e w' ⟨rfl, ⟨nd, rfl⟩⟩; refine ⟨_, rfl, ?_⟩))
      go_ret
      exact ⟨by first | rfl | (simp [errW_none, errW_some] <;> rfl) | (simp [*, errW_none, errW_some] <;> rfl), by repeat (first | (with_reducible first | exact HB.out | apply below_alloc | apply pw_below_drewN | apply below_drew1 | refine below_set ?_ GE176.out) | exact HB.out)⟩
    · rw [if_neg c8] at H
      have c8b0 : decide (t178 < 0) = false := decide_eq_false c8
      clear c8
      replace H := Option.bind_eq_some_iff.mp H
      obtain ⟨t179, A110, H⟩ := H
      replace H : (if t179 < 0 then (some (-1)) else (some t179)) = some r := H
      have A11 := Aside0.mk A110
      clear A110
      by_cases c12 : t179 < 0
      · rw [if_pos c12] at H
        have c12b0 : decide (t179 < 0) = true := decide_eq_true c12
        clear c12
        obtain rfl := Option.some.inj H
        go_enter Try.func19, Try.ntmps19
        go_wp2_with (first | ((with_reducible refine gate_dst (N := 2) rfl ?_); refine box_event ?hg (N := 2) ?hd (cs := #[.slice A0_0 l0_0.length c0_0, .slice A0_1 l0_1.length c0_1, .slice A0_2 l0_2.length c0_2]) (t := 38) ?hr ?_; (case hd => rfl); (case hg => rfl); (case hr => first | (go_simp; done) | (go_simp; rfl)); intro gb176 hg w13 hbox hb; have n0_ := Aside0.mk (below_step (by repeat (first | (with_reducible first | exact HB.out | apply below_alloc | apply pw_below_drewN | apply below_drew1) | exact HB.out)) hb); have n1_ := Aside0.mk (hbox); have n2_ := Aside0.mk ((by rw [hg]; exact (below_size (by repeat (first | (with_reducible first | exact HB.out | apply below_alloc | apply pw_below_drewN | apply below_drew1) | exact HB.out))) : w.heap.size ≤ gb176)); have n3_ := Aside0.mk ((by rw [hg]; exact (below_size (by repeat (first | (with_reducible first | exact HB.out | apply below_alloc | apply pw_below_drewN | apply below_drew1) | exact HB.out))) : w.heap.size ≤ gb176)); clear HB; have HB := n0_; have BK176 := n1_; have GW176 := n2_; have GE176 := n3_; clear n0_ n1_ n2_ n3_; clear hb hbox hg; have hcz14_0 : w13.cell? ⟨gb176, 0, none⟩ = some (.slice A0_0 l0_0.length c0_0) := (blk_cell BK176.out 0).trans rfl; have hcz14_1 : w13.cell? ⟨gb176, 1, none⟩ = some (.slice A0_1 l0_1.length c0_1) := (blk_cell BK176.out 1).trans rfl; have hcz14_2 : w13.cell? ⟨gb176, 2, none⟩ = some (.slice A0_2 l0_2.length c0_2) := (blk_cell BK176.out 2).trans rfl; have hfz14_0 := blk_frozen BK176.out 0; have hfz14_1 := blk_frozen BK176.out 1; have hfz14_2 := blk_frozen BK176.out 2) | ((with_reducible refine gate_callee (f := 44) rfl ?_); refine goesL_ (some 8) rfl rfl Try.func44 (by kernel_rfl) rfl #[.slice A0_0 l0_0.length c0_0, .int .i64 a1] rfl (by (try simp only [List.map_toArray, List.map_cons, List.map_nil]); first | done | rfl | (simp only [List.length_drop, List.length_take]; rfl)) ?_; (with_reducible refine (laws_heldReplicaS.calls k _ _ l0_0 a1 t177 _ ?side1 ?side2 A3.out).mono ?_); (case side1 => repeat (first | exact (Kd.C_below HR0_0.out HB.out) | (with_reducible refine Kd.C_alloc ?_ _) | (with_reducible refine Kd.C_drewN ?_ _) | (with_reducible refine Kd.C_drew ?_))); (case side2 => exact HC0_0.out); rintro e w' ⟨rfl, ⟨nd, rfl⟩⟩; refine ⟨_, rfl, ?_⟩) | ((with_reducible refine gate_callee (f := 45) rfl ?_); refine goesL_ (some 14) rfl rfl Try.func45 (by kernel_rfl) rfl #[.slice A0_1 l0_1.length c0_1, .int .i64 t177] rfl (by (try simp only [List.map_toArray, List.map_cons, List.map_nil]); first | done | rfl | (simp only [List.length_drop, List.length_take]; rfl)) ?_; (with_reducible refine (laws_heldMsgS.calls _ _ l0_1 t177 t178 _ ?side1 ?side2 A7.out).mono ?_); (case side1 => repeat (first | exact (Kd.C_below HR0_1.out (by repeat (first | (with_reducible first | exact HB.out | apply below_alloc | apply pw_below_drewN | apply below_drew1 | refine below_set ?_ GE176.out) | exact HB.out))) | (with_reducible refine Kd.C_alloc ?_ _) | (with_reducible refine Kd.C_drewN ?_ _) | (with_reducible refine Kd.C_drew ?_))); (case side2 => exact HC0_1.out); rintro e w' ⟨rfl, ⟨nd, rfl⟩⟩; refine ⟨_, rfl, ?_⟩) | ((with_reducible refine gate_callee (f := 46) rfl ?_); refine goesL_ (some 20) rfl rfl Try.func46 (by kernel_rfl) rfl #[.slice A0_2 l0_2.length c0_2, .int .i64 t178] rfl (by (try simp only [List.map_toArray, List.map_cons, List.map_nil]); first | done | rfl | (simp only [List.length_drop, List.length_take]; rfl)) ?_; (with_reducible refine (laws_heldAskedS.calls _ _ l0_2 t178 t179 _ ?side1 ?side2 A11.out).mono ?_); (case side1 => repeat (first | exact (Kd.C_below HR0_2.out (by repeat (first | (with_reducible first | exact HB.out | apply below_alloc | apply pw_below_drewN | apply below_drew1 | refine below_set ?_ GE176.out) | exact HB.out))) | (with_reducible refine Kd.C_alloc ?_ _) | (with_reducible refine Kd.C_drewN ?_ _) | (with_reducible refine Kd.C_drew ?_))); (case side2 => exact HC0_2.out); rintro e w' ⟨rfl, ⟨nd, rfl⟩⟩; refine ⟨_, rfl, ?_⟩))
        go_ret
        exact ⟨by first | rfl | (simp [errW_none, errW_some] <;> rfl) | (simp [*, errW_none, errW_some] <;> rfl), by repeat (first | (with_reducible first | exact HB.out | apply below_alloc | apply pw_below_drewN | apply below_drew1 | refine below_set ?_ GE176.out) | exact HB.out)⟩
      · rw [if_neg c12] at H
        have c12b0 : decide (t179 < 0) = false := decide_eq_false c12
        clear c12
        obtain rfl := Option.some.inj H
        go_enter Try.func19, Try.ntmps19
        go_wp2_with (first | ((with_reducible refine gate_dst (N := 2) rfl ?_); refine box_event ?hg (N := 2) ?hd (cs := #[.slice A0_0 l0_0.length c0_0, .slice A0_1 l0_1.length c0_1, .slice A0_2 l0_2.length c0_2]) (t := 38) ?hr ?_; (case hd => rfl); (case hg => rfl); (case hr => first | (go_simp; done) | (go_simp; rfl)); intro gb176 hg w15 hbox hb; have n0_ := Aside0.mk (below_step (by repeat (first | (with_reducible first | exact HB.out | apply below_alloc | apply pw_below_drewN | apply below_drew1) | exact HB.out)) hb); have n1_ := Aside0.mk (hbox); have n2_ := Aside0.mk ((by rw [hg]; exact (below_size (by repeat (first | (with_reducible first | exact HB.out | apply below_alloc | apply pw_below_drewN | apply below_drew1) | exact HB.out))) : w.heap.size ≤ gb176)); have n3_ := Aside0.mk ((by rw [hg]; exact (below_size (by repeat (first | (with_reducible first | exact HB.out | apply below_alloc | apply pw_below_drewN | apply below_drew1) | exact HB.out))) : w.heap.size ≤ gb176)); clear HB; have HB := n0_; have BK176 := n1_; have GW176 := n2_; have GE176 := n3_; clear n0_ n1_ n2_ n3_; clear hb hbox hg; have hcz16_0 : w15.cell? ⟨gb176, 0, none⟩ = some (.slice A0_0 l0_0.length c0_0) := (blk_cell BK176.out 0).trans rfl; have hcz16_1 : w15.cell? ⟨gb176, 1, none⟩ = some (.slice A0_1 l0_1.length c0_1) := (blk_cell BK176.out 1).trans rfl; have hcz16_2 : w15.cell? ⟨gb176, 2, none⟩ = some (.slice A0_2 l0_2.length c0_2) := (blk_cell BK176.out 2).trans rfl; have hfz16_0 := blk_frozen BK176.out 0; have hfz16_1 := blk_frozen BK176.out 1; have hfz16_2 := blk_frozen BK176.out 2) | ((with_reducible refine gate_callee (f := 44) rfl ?_); refine goesL_ (some 8) rfl rfl Try.func44 (by kernel_rfl) rfl #[.slice A0_0 l0_0.length c0_0, .int .i64 a1] rfl (by (try simp only [List.map_toArray, List.map_cons, List.map_nil]); first | done | rfl | (simp only [List.length_drop, List.length_take]; rfl)) ?_; (with_reducible refine (laws_heldReplicaS.calls k _ _ l0_0 a1 t177 _ ?side1 ?side2 A3.out).mono ?_); (case side1 => repeat (first | exact (Kd.C_below HR0_0.out HB.out) | (with_reducible refine Kd.C_alloc ?_ _) | (with_reducible refine Kd.C_drewN ?_ _) | (with_reducible refine Kd.C_drew ?_))); (case side2 => exact HC0_0.out); rintro e w' ⟨rfl, ⟨nd, rfl⟩⟩; refine ⟨_, rfl, ?_⟩) | ((with_reducible refine gate_callee (f := 45) rfl ?_); refine goesL_ (some 14) rfl rfl Try.func45 (by kernel_rfl) rfl #[.slice A0_1 l0_1.length c0_1, .int .i64 t177] rfl (by (try simp only [List.map_toArray, List.map_cons, List.map_nil]); first | done | rfl | (simp only [List.length_drop, List.length_take]; rfl)) ?_; (with_reducible refine (laws_heldMsgS.calls _ _ l0_1 t177 t178 _ ?side1 ?side2 A7.out).mono ?_); (case side1 => repeat (first | exact (Kd.C_below HR0_1.out (by repeat (first | (with_reducible first | exact HB.out | apply below_alloc | apply pw_below_drewN | apply below_drew1 | refine below_set ?_ GE176.out) | exact HB.out))) | (with_reducible refine Kd.C_alloc ?_ _) | (with_reducible refine Kd.C_drewN ?_ _) | (with_reducible refine Kd.C_drew ?_))); (case side2 => exact HC0_1.out); rintro e w' ⟨rfl, ⟨nd, rfl⟩⟩; refine ⟨_, rfl, ?_⟩) | ((with_reducible refine gate_callee (f := 46) rfl ?_); refine goesL_ (some 20) rfl rfl Try.func46 (by kernel_rfl) rfl #[.slice A0_2 l0_2.length c0_2, .int .i64 t178] rfl (by (try simp only [List.map_toArray, List.map_cons, List.map_nil]); first | done | rfl | (simp only [List.length_drop, List.length_take]; rfl)) ?_; (with_reducible refine (laws_heldAskedS.calls _ _ l0_2 t178 t179 _ ?side1 ?side2 A11.out).mono ?_); (case side1 => repeat (first | exact (Kd.C_below HR0_2.out (by repeat (first | (with_reducible first | exact HB.out | apply below_alloc | apply pw_below_drewN | apply below_drew1 | refine below_set ?_ GE176.out) | exact HB.out))) | (with_reducible refine Kd.C_alloc ?_ _) | (with_reducible refine Kd.C_drewN ?_ _) | (with_reducible refine Kd.C_drew ?_))); (case side2 => exact HC0_2.out); rintro e w' ⟨rfl, ⟨nd, rfl⟩⟩; refine ⟨_, rfl, ?_⟩))
        go_ret
        exact ⟨by first | rfl | (simp [errW_none, errW_some] <;> rfl) | (simp [*, errW_none, errW_some] <;> rfl), by repeat (first | (with_reducible first | exact HB.out | apply below_alloc | apply pw_below_drewN | apply below_drew1 | refine below_set ?_ GE176.out) | exact HB.out)⟩

/-! ### laws_FnExactNewNet: function 5 -/
section
open Go.RowKit
/-- A struct's variable is loaded whole. -/
theorem load_run {P : Program} {o : Oper} {a : Act} {W : World} {g : Nat} {cs : Array Value} {t : TypeId} (hg : W.heap[g]? = some (.cells cs t (0, 0))) (n : Nat) (hn : cs.size = n) (ty : TypeId) (x : Operand) (ho : o.op = .load ty x)
    (hx : a.eval x = .pointer (some ⟨g, 0, none⟩)) (d : TypeDesc) (hu : P.underlying ty = some d) (hd : (match d with | .struct _ | .array _ _ => true | _ => false) = true) (hi : (P.info? ty).map (·.size) = some n) :
    (execOp a.eval o).run P W = .ok (.value (.agg cs)) W := by
  subst hn
  unfold execOp
  simp only [ho, hx, Instr.loadAt, Instr.sureAddr, Sem.run_bind, Sem.run_pure, Result.andThen_ok, run_loadVar_row W g t ty cs (0, 0) d hg hu hd hi]

theorem store_run {P : Program} {o : Oper} {a : Act} {W : World} {g : Nat} {cs cs' : Array Value} {t : TypeId} (hg : W.heap[g]? = some (.cells cs t (0, 0))) (n : Nat) (hn : cs.size = n) (hn' : cs'.size = n) (ty : TypeId) (x y : Operand) (ho : o.op = .store ty x y)
    (hx : a.eval x = .pointer (some ⟨g, 0, none⟩)) (hy : a.eval y = .agg cs') (hi : (P.info? ty).map (·.size) = some n) (h1 : cs'.all (·.oneCell') = true) :
    (execOp a.eval o).run P W = .ok .skip (W.setRow g cs') := by
  unfold execOp
  simp only [ho, hx, hy, Instr.storeAt, Instr.sureAddr, Sem.run_bind, Sem.run_pure, Result.andThen_ok, run_storeVar_row W g t ty cs cs' hg (by rw [hn']; exact hi) (by rw [hn, hn']) h1]
theorem kept_setRow (W : World) (g : Nat) (cs : Array Value) : Kept W (W.setRow g cs) (fun k => k = g) := ⟨by simp, fun i _ hi => setRow_other W g i cs hi⟩
theorem below_setRow_ {B g : Nat} {w0 w : World} (hb : Below B w0 w) (hBg : B ≤ g) (cs : Array Value) : Below B w0 (w.setRow g cs) :=
  ⟨hb.os, hb.tape, hb.output, by simpa using hb.size, fun k hk => (setRow_other w g k cs (by omega)).trans (hb.block k hk)⟩
end
/-- What the law's calls answer. -/
def laws_FnExactNewNet.Facts (a0 : Int) : Prop :=
  ∃ r1 : List (S70), ∃ r2 : List (S94), ∃ r3 : List (S97), ∃ r4 : Bool, (∃ K, spec_NewNet.f K a0 = some (r1, r2, r3, r4)) ∧ (∃ K, impl_NewNet.f K a0 = some (r1, r2, r3, r4)) ∧ (∃ K, laws_eqNet.f K r1 r2 r3 r1 r2 r3 = some true) ∧ ∃ m5 : Int, ∃ rm5 : List (S70), (∃ K, 0 ≤ m5 ∧ laws_markNet.f K r1 r2 r3 1 = some (m5, rm5)) ∧ (∃ K, laws_heldNet.f K rm5 r2 r3 1 = some m5) ∧ True
set_option maxHeartbeats 8000000 in
set_option maxRecDepth 100000 in
theorem laws_FnExactNewNet.calls (a0 : Int) (w : World)  (h : laws_FnExactNewNet.Facts a0) :
    Calls Try.prog 5 #[.int .i64 a0] w fun e w' => e = .returned (.bool true) ∧ Below w.heap.size w w' := by
  unfold laws_FnExactNewNet.Facts at h
  have HF := Aside0.mk h
  clear h
  have HB := Aside0.mk (Below.refl w.heap.size w)
  obtain ⟨r1, r2, r3, r4, ⟨K1, h1⟩, hF⟩ := HF.out
  clear HF
  have HF := Aside0.mk hF
  clear hF
  have H1 := Aside0.mk h1
  clear h1
  go_enter Try.func5, Try.ntmps5
  go_wp2_with fail
  (refine (spec_NewNet.calls K1 a0 r1 r2 r3 r4 w H1.out).mono ?_)
  rintro e w1 ⟨v0_, v1_, v2_, rfl, hS0, hS1, hS2, hb⟩
  have X1 : Aside0 (Kd.R k70 70 w1 w.heap.size (fun k => w.heap.size ≤ k ∧ k < w1.heap.size) v0_ r1) := ⟨Kd.R_mono (Kd.R_lower (Kd.R_bound hS0) HB.out.size) (fun k hk => ⟨hk.2.1, hk.2.2.1⟩)⟩
  have X2 : Aside0 (Kd.S k94 94 w1 w.heap.size (fun k => w.heap.size ≤ k ∧ k < w1.heap.size) v1_ r2) := ⟨Kd.S_mono (Kd.S_lower (Kd.S_bound hS1) HB.out.size) (fun k hk => ⟨hk.2.1, hk.2.2.1⟩)⟩
  have X3 : Aside0 (Kd.R k97 97 w1 w.heap.size (fun k => w.heap.size ≤ k ∧ k < w1.heap.size) v2_ r3) := ⟨Kd.R_mono (Kd.R_lower (Kd.R_bound hS2) HB.out.size) (fun k hk => ⟨hk.2.1, hk.2.2.1⟩)⟩
  have Z1 : Aside0 (w.heap.size ≤ w1.heap.size) := ⟨hb.size⟩
  have hb_ := Aside0.mk (below_then HB.out HB.out.size hb)
  clear HB
  have HB := hb_
  clear hb_
  clear hb hS0 hS1 hS2
  obtain ⟨A1_, c1_, rfl⟩ := Kd.R_slice X1.out
  obtain ⟨A2_, c2_, rfl⟩ := Kd.S_slice X2.out
  obtain ⟨A3_, c3_, rfl⟩ := Kd.R_slice X3.out
  obtain ⟨⟨K2, h2⟩, hF⟩ := HF.out
  clear HF
  have HF := Aside0.mk hF
  clear hF
  have H2 := Aside0.mk h2
  clear h2
  go_upto_region 2 with (fail)
  refine letC (fun W_ => Below w1.heap.size w1 W_ ∧ W_.heap[w1.heap.size]? = some (.cells #[.slice A1_ r1.length c1_, .slice A2_ r2.length c2_, .slice A3_ r3.length c3_] 38 (0, 0))) ?_ ?_
  · refine ⟨?_, ?_⟩
    · repeat (first | exact Below.refl _ _ | apply below_alloc | refine below_set ?_ (by first | exact Nat.le_refl _ | omega | (simp; done)))
    · exact blk_new w1 (.cells #[.slice A1_ r1.length c1_, .slice A2_ r2.length c2_, .slice A3_ r3.length c3_] 38)
  intro w2 hq_
  obtain ⟨hb, hx0_⟩ := hq_
  have Z2 : Aside0 (w1.heap.size ≤ w2.heap.size) := ⟨hb.size⟩
  have n0_ := Aside0.mk (Kd.R_below X1.out hb)
  have n1_ := Aside0.mk (Kd.S_below X2.out hb)
  have n2_ := Aside0.mk (Kd.R_below X3.out hb)
  have hb_ := Aside0.mk (below_then HB.out HB.out.size hb)
  clear X1 X2 X3
  have X1 := n0_
  have X2 := n1_
  have X3 := n2_
  clear n0_ n1_ n2_
  clear HB
  have HB := hb_
  clear hb_
  clear hb
  have BX1 : Aside0 (w2.heap[w1.heap.size]? = some (.cells #[.slice A1_ r1.length c1_, .slice A2_ r2.length c2_, .slice A3_ r3.length c3_] 38 (0, 0))) := ⟨hx0_⟩
  clear hx0_
  have GBX1 : Aside0 (w1.heap.size < w2.heap.size) := ⟨blk_lt BX1.out⟩
  go_wp2_with fail
  (refine (impl_NewNet.calls K2 a0 r1 r2 r3 r4 w2 H2.out).mono ?_)
  rintro e w3 ⟨v0_, v1_, v2_, rfl, hS0, hS1, hS2, hb⟩
  have X4 : Aside0 (Kd.R k70 70 w3 w.heap.size (fun k => w2.heap.size ≤ k ∧ k < w3.heap.size) v0_ r1) := ⟨Kd.R_mono (Kd.R_lower (Kd.R_bound hS0) HB.out.size) (fun k hk => ⟨hk.2.1, hk.2.2.1⟩)⟩
  have X5 : Aside0 (Kd.S k94 94 w3 w.heap.size (fun k => w2.heap.size ≤ k ∧ k < w3.heap.size) v1_ r2) := ⟨Kd.S_mono (Kd.S_lower (Kd.S_bound hS1) HB.out.size) (fun k hk => ⟨hk.2.1, hk.2.2.1⟩)⟩
  have X6 : Aside0 (Kd.R k97 97 w3 w.heap.size (fun k => w2.heap.size ≤ k ∧ k < w3.heap.size) v2_ r3) := ⟨Kd.R_mono (Kd.R_lower (Kd.R_bound hS2) HB.out.size) (fun k hk => ⟨hk.2.1, hk.2.2.1⟩)⟩
  have Z3 : Aside0 (w2.heap.size ≤ w3.heap.size) := ⟨hb.size⟩
  have n0_ := Aside0.mk (Kd.R_below X1.out hb)
  have n1_ := Aside0.mk (Kd.S_below X2.out hb)
  have n2_ := Aside0.mk (Kd.R_below X3.out hb)
  have n3_ := Aside0.mk (blk_below BX1.out hb)
  have hb_ := Aside0.mk (below_then HB.out HB.out.size hb)
  clear X1 X2 X3 BX1
  have X1 := n0_
  have X2 := n1_
  have X3 := n2_
  have BX1 := n3_
  clear n0_ n1_ n2_ n3_
  clear HB
  have HB := hb_
  clear hb_
  clear hb hS0 hS1 hS2
  obtain ⟨A4_, c4_, rfl⟩ := Kd.R_slice X4.out
  obtain ⟨A5_, c5_, rfl⟩ := Kd.S_slice X5.out
  obtain ⟨A6_, c6_, rfl⟩ := Kd.R_slice X6.out
  obtain ⟨⟨K3, h3⟩, hF⟩ := HF.out
  clear HF
  have HF := Aside0.mk hF
  clear hF
  have H3 := Aside0.mk h3
  clear h3
  go_upto_region 3 with (first | ((with_reducible refine gate_dst (N := 21) rfl ?_); first | refine Kd.event_run rfl (load_run BX1.out 3 rfl 38 _ (by rfl) (by rfl) _ Try.underlying38 rfl (by kernel_rfl)) ?_) | ((with_reducible refine gate_dst (N := 22) rfl ?_); first | refine Kd.event_run rfl (load_run BX1.out 3 rfl 38 _ (by rfl) (by rfl) _ Try.underlying38 rfl (by kernel_rfl)) ?_) | ((with_reducible refine gate_dst (N := 30) rfl ?_); first | refine Kd.event_run rfl (load_run BX1.out 3 rfl 38 _ (by rfl) (by rfl) _ Try.underlying38 rfl (by kernel_rfl)) ?_) | ((with_reducible refine gate_dst (N := 33) rfl ?_); first | refine Kd.event_run rfl (load_run BX1.out 3 rfl 38 _ (by rfl) (by rfl) _ Try.underlying38 rfl (by kernel_rfl)) ?_) | ((with_reducible refine gate_dst (N := 46) rfl ?_); first | refine Kd.event_run rfl (load_run BX1.out 3 rfl 38 _ (by rfl) (by rfl) _ Try.underlying38 rfl (by kernel_rfl)) ?_) | ((with_reducible refine gate_dst (N := 47) rfl ?_); first | refine Kd.event_run rfl (load_run BX1.out 3 rfl 38 _ (by rfl) (by rfl) _ Try.underlying38 rfl (by kernel_rfl)) ?_) | ((with_reducible refine gate_dst (N := 55) rfl ?_); first | refine Kd.event_run rfl (load_run BX1.out 3 rfl 38 _ (by rfl) (by rfl) _ Try.underlying38 rfl (by kernel_rfl)) ?_))
  refine letC (fun W_ => Below w3.heap.size w3 W_ ∧ W_.heap[w3.heap.size]? = some (.cells #[.slice A4_ r1.length c4_, .slice A5_ r2.length c5_, .slice A6_ r3.length c6_] 38 (0, 0))) ?_ ?_
  · refine ⟨?_, ?_⟩
    · repeat (first | exact Below.refl _ _ | apply below_alloc | refine below_set ?_ (by first | exact Nat.le_refl _ | omega | (simp; done)))
    · exact blk_new w3 (.cells #[.slice A4_ r1.length c4_, .slice A5_ r2.length c5_, .slice A6_ r3.length c6_] 38)
  intro w4 hq_
  obtain ⟨hb, hx0_⟩ := hq_
  have Z4 : Aside0 (w3.heap.size ≤ w4.heap.size) := ⟨hb.size⟩
  have n0_ := Aside0.mk (Kd.R_below X1.out hb)
  have n1_ := Aside0.mk (Kd.S_below X2.out hb)
  have n2_ := Aside0.mk (Kd.R_below X3.out hb)
  have n3_ := Aside0.mk (Kd.R_below X4.out hb)
  have n4_ := Aside0.mk (Kd.S_below X5.out hb)
  have n5_ := Aside0.mk (Kd.R_below X6.out hb)
  have n6_ := Aside0.mk (blk_below BX1.out hb)
  have hb_ := Aside0.mk (below_then HB.out HB.out.size hb)
  clear X1 X2 X3 X4 X5 X6 BX1
  have X1 := n0_
  have X2 := n1_
  have X3 := n2_
  have X4 := n3_
  have X5 := n4_
  have X6 := n5_
  have BX1 := n6_
  clear n0_ n1_ n2_ n3_ n4_ n5_ n6_
  clear HB
  have HB := hb_
  clear hb_
  clear hb
  have BX2 : Aside0 (w4.heap[w3.heap.size]? = some (.cells #[.slice A4_ r1.length c4_, .slice A5_ r2.length c5_, .slice A6_ r3.length c6_] 38 (0, 0))) := ⟨hx0_⟩
  clear hx0_
  have GBX2 : Aside0 (w3.heap.size < w4.heap.size) := ⟨blk_lt BX2.out⟩
  go_wp2_with (first | ((with_reducible refine gate_dst (N := 21) rfl ?_); first | refine Kd.event_run rfl (load_run BX1.out 3 rfl 38 _ (by rfl) (by rfl) _ Try.underlying38 rfl (by kernel_rfl)) ?_ | refine Kd.event_run rfl (load_run BX2.out 3 rfl 38 _ (by rfl) (by rfl) _ Try.underlying38 rfl (by kernel_rfl)) ?_) | ((with_reducible refine gate_dst (N := 22) rfl ?_); first | refine Kd.event_run rfl (load_run BX1.out 3 rfl 38 _ (by rfl) (by rfl) _ Try.underlying38 rfl (by kernel_rfl)) ?_ | refine Kd.event_run rfl (load_run BX2.out 3 rfl 38 _ (by rfl) (by rfl) _ Try.underlying38 rfl (by kernel_rfl)) ?_) | ((with_reducible refine gate_dst (N := 30) rfl ?_); first | refine Kd.event_run rfl (load_run BX1.out 3 rfl 38 _ (by rfl) (by rfl) _ Try.underlying38 rfl (by kernel_rfl)) ?_ | refine Kd.event_run rfl (load_run BX2.out 3 rfl 38 _ (by rfl) (by rfl) _ Try.underlying38 rfl (by kernel_rfl)) ?_) | ((with_reducible refine gate_dst (N := 33) rfl ?_); first | refine Kd.event_run rfl (load_run BX1.out 3 rfl 38 _ (by rfl) (by rfl) _ Try.underlying38 rfl (by kernel_rfl)) ?_ | refine Kd.event_run rfl (load_run BX2.out 3 rfl 38 _ (by rfl) (by rfl) _ Try.underlying38 rfl (by kernel_rfl)) ?_) | ((with_reducible refine gate_dst (N := 46) rfl ?_); first | refine Kd.event_run rfl (load_run BX1.out 3 rfl 38 _ (by rfl) (by rfl) _ Try.underlying38 rfl (by kernel_rfl)) ?_ | refine Kd.event_run rfl (load_run BX2.out 3 rfl 38 _ (by rfl) (by rfl) _ Try.underlying38 rfl (by kernel_rfl)) ?_) | ((with_reducible refine gate_dst (N := 47) rfl ?_); first | refine Kd.event_run rfl (load_run BX1.out 3 rfl 38 _ (by rfl) (by rfl) _ Try.underlying38 rfl (by kernel_rfl)) ?_ | refine Kd.event_run rfl (load_run BX2.out 3 rfl 38 _ (by rfl) (by rfl) _ Try.underlying38 rfl (by kernel_rfl)) ?_) | ((with_reducible refine gate_dst (N := 55) rfl ?_); first | refine Kd.event_run rfl (load_run BX1.out 3 rfl 38 _ (by rfl) (by rfl) _ Try.underlying38 rfl (by kernel_rfl)) ?_ | refine Kd.event_run rfl (load_run BX2.out 3 rfl 38 _ (by rfl) (by rfl) _ Try.underlying38 rfl (by kernel_rfl)) ?_))
  (refine (laws_eqNet.calls K3 A4_ c4_ r1 A5_ c5_ r2 A6_ c6_ r3 A1_ c1_ r1 A2_ c2_ r2 A3_ c3_ r3 true w4 (Kd.R_reads' X4.out).2.2 (Kd.R_reads' X4.out).2.1 (Kd.S_reads' X5.out).2.2 (Kd.S_reads' X5.out).2.1 (Kd.R_reads' X6.out).2.2 (Kd.R_reads' X6.out).2.1 (Kd.R_reads' X1.out).2.2 (Kd.R_reads' X1.out).2.1 (Kd.S_reads' X2.out).2.2 (Kd.S_reads' X2.out).2.1 (Kd.R_reads' X3.out).2.2 (Kd.R_reads' X3.out).2.1 H3.out).mono ?_)
  rintro e w5 ⟨rfl, hb⟩
  have Z5 : Aside0 (w4.heap.size ≤ w5.heap.size) := ⟨hb.size⟩
  have n0_ := Aside0.mk (Kd.R_below X1.out hb)
  have n1_ := Aside0.mk (Kd.S_below X2.out hb)
  have n2_ := Aside0.mk (Kd.R_below X3.out hb)
  have n3_ := Aside0.mk (Kd.R_below X4.out hb)
  have n4_ := Aside0.mk (Kd.S_below X5.out hb)
  have n5_ := Aside0.mk (Kd.R_below X6.out hb)
  have n6_ := Aside0.mk (blk_below BX1.out hb)
  have n7_ := Aside0.mk (blk_below BX2.out hb)
  have hb_ := Aside0.mk (below_then HB.out HB.out.size hb)
  clear X1 X2 X3 X4 X5 X6 BX1 BX2
  have X1 := n0_
  have X2 := n1_
  have X3 := n2_
  have X4 := n3_
  have X5 := n4_
  have X6 := n5_
  have BX1 := n6_
  have BX2 := n7_
  clear n0_ n1_ n2_ n3_ n4_ n5_ n6_ n7_
  clear HB
  have HB := hb_
  clear hb_
  clear hb
  obtain ⟨m5, rm5, ⟨K4, h4⟩, hF⟩ := HF.out
  clear HF
  have HF := Aside0.mk hF
  clear hF
  have H4 := Aside0.mk h4
  clear h4
  go_wp2_with (first | ((with_reducible refine gate_dst (N := 21) rfl ?_); first | refine Kd.event_run rfl (load_run BX2.out 3 rfl 38 _ (by rfl) (by rfl) _ Try.underlying38 rfl (by kernel_rfl)) ?_) | ((with_reducible refine gate_dst (N := 22) rfl ?_); first | refine Kd.event_run rfl (load_run BX2.out 3 rfl 38 _ (by rfl) (by rfl) _ Try.underlying38 rfl (by kernel_rfl)) ?_) | ((with_reducible refine gate_dst (N := 30) rfl ?_); first | refine Kd.event_run rfl (load_run BX2.out 3 rfl 38 _ (by rfl) (by rfl) _ Try.underlying38 rfl (by kernel_rfl)) ?_) | ((with_reducible refine gate_dst (N := 33) rfl ?_); first | refine Kd.event_run rfl (load_run BX2.out 3 rfl 38 _ (by rfl) (by rfl) _ Try.underlying38 rfl (by kernel_rfl)) ?_) | ((with_reducible refine gate_dst (N := 46) rfl ?_); first | refine Kd.event_run rfl (load_run BX2.out 3 rfl 38 _ (by rfl) (by rfl) _ Try.underlying38 rfl (by kernel_rfl)) ?_) | ((with_reducible refine gate_dst (N := 47) rfl ?_); first | refine Kd.event_run rfl (load_run BX2.out 3 rfl 38 _ (by rfl) (by rfl) _ Try.underlying38 rfl (by kernel_rfl)) ?_) | ((with_reducible refine gate_dst (N := 55) rfl ?_); first | refine Kd.event_run rfl (load_run BX2.out 3 rfl 38 _ (by rfl) (by rfl) _ Try.underlying38 rfl (by kernel_rfl)) ?_))
  (refine (laws_markNet.calls K4 (fun k => w2.heap.size ≤ k ∧ k < w3.heap.size) _ r1 _ _ r2 _ _ r3 1 m5 rm5 w w5 HB.out X4.out (Kd.S_reads' X5.out).2.2 ((Kd.S_reads' X5.out).2.1) (Kd.R_reads' X6.out).2.2 ((Kd.R_reads' X6.out).2.1) H4.out.2).mono ?_)
  rintro e w6 ⟨rfl, hS, hb, hk⟩
  have hm5 := H4.out.1
  have Z6 : Aside0 (w5.heap.size ≤ w6.heap.size) := ⟨hk.1⟩
  have n0_ := Aside0.mk (Kd.R_kept X1.out hk (fun k h1_ h2_ => by have h3_ := X4.out.1 k h2_.symm; have := Z1.out; have := Z2.out; have := GBX1.out; have := Z3.out; have := Z4.out; have := GBX2.out; have := Z5.out; (try dsimp only at h1_ h3_); omega))
  have n1_ := Aside0.mk (Kd.S_kept X2.out hk (fun k h1_ h2_ => by have h3_ := X4.out.1 k h2_.symm; have := Z1.out; have := Z2.out; have := GBX1.out; have := Z3.out; have := Z4.out; have := GBX2.out; have := Z5.out; (try dsimp only at h1_ h3_); omega))
  have n2_ := Aside0.mk (Kd.R_kept X3.out hk (fun k h1_ h2_ => by have h3_ := X4.out.1 k h2_.symm; have := Z1.out; have := Z2.out; have := GBX1.out; have := Z3.out; have := Z4.out; have := GBX2.out; have := Z5.out; (try dsimp only at h1_ h3_); omega))
  have n3_ := Aside0.mk (hS)
  have n4_ := Aside0.mk (Kd.S_mono (Kd.S_kept (Kd.S_apart' X5.out (Kd.R_typed X4.out) (by decide)) hk (fun k h1_ h2_ => h1_.2 h2_)) (fun k h1_ => h1_.1))
  have n5_ := Aside0.mk (Kd.R_mono (Kd.R_kept (Kd.R_apart' X6.out (Kd.R_typed X4.out) (by decide)) hk (fun k h1_ h2_ => h1_.2 h2_)) (fun k h1_ => h1_.1))
  have n6_ := Aside0.mk (blk_kept BX1.out hk (fun h1_ => by have h1_ := X4.out.1 _ h1_.symm; have := Z1.out; have := Z2.out; have := GBX1.out; have := Z3.out; have := Z4.out; have := GBX2.out; have := Z5.out; (try dsimp only at h1_); omega))
  have n7_ := Aside0.mk (blk_kept BX2.out hk (fun h1_ => by have h1_ := X4.out.1 _ h1_.symm; have := Z1.out; have := Z2.out; have := GBX1.out; have := Z3.out; have := Z4.out; have := GBX2.out; have := Z5.out; (try dsimp only at h1_); omega))
  have hb_ := Aside0.mk (hb)
  clear X1 X2 X3 X4 X5 X6 BX1 BX2
  have X1 := n0_
  have X2 := n1_
  have X3 := n2_
  have X4 := n3_
  have X5 := n4_
  have X6 := n5_
  have BX1 := n6_
  have BX2 := n7_
  clear n0_ n1_ n2_ n3_ n4_ n5_ n6_ n7_
  clear HB
  have HB := hb_
  clear hb_
  clear hS hb hk
  obtain ⟨⟨K5, h5⟩, hF⟩ := HF.out
  clear HF
  have HF := Aside0.mk hF
  clear hF
  have H5 := Aside0.mk h5
  clear h5
  go_wp2_with (first | ((with_reducible refine gate_dst (N := 21) rfl ?_); first | refine Kd.event_run rfl (load_run BX2.out 3 rfl 38 _ (by rfl) (by rfl) _ Try.underlying38 rfl (by kernel_rfl)) ?_) | ((with_reducible refine gate_dst (N := 22) rfl ?_); first | refine Kd.event_run rfl (load_run BX2.out 3 rfl 38 _ (by rfl) (by rfl) _ Try.underlying38 rfl (by kernel_rfl)) ?_) | ((with_reducible refine gate_dst (N := 30) rfl ?_); first | refine Kd.event_run rfl (load_run BX2.out 3 rfl 38 _ (by rfl) (by rfl) _ Try.underlying38 rfl (by kernel_rfl)) ?_) | ((with_reducible refine gate_dst (N := 33) rfl ?_); first | refine Kd.event_run rfl (load_run BX2.out 3 rfl 38 _ (by rfl) (by rfl) _ Try.underlying38 rfl (by kernel_rfl)) ?_) | ((with_reducible refine gate_dst (N := 46) rfl ?_); first | refine Kd.event_run rfl (load_run BX2.out 3 rfl 38 _ (by rfl) (by rfl) _ Try.underlying38 rfl (by kernel_rfl)) ?_) | ((with_reducible refine gate_dst (N := 47) rfl ?_); first | refine Kd.event_run rfl (load_run BX2.out 3 rfl 38 _ (by rfl) (by rfl) _ Try.underlying38 rfl (by kernel_rfl)) ?_) | ((with_reducible refine gate_dst (N := 55) rfl ?_); first | refine Kd.event_run rfl (load_run BX2.out 3 rfl 38 _ (by rfl) (by rfl) _ Try.underlying38 rfl (by kernel_rfl)) ?_))
  have hc_ := laws_heldNet.calls K5 A4_ c4_ rm5 A5_ c5_ r2 A6_ c6_ r3 1 m5 w6 (Kd.R_reads' X4.out).2.2 (Nat.le_trans (Nat.le_of_eq (Kd.R_reads' X4.out).1.symm) (Kd.R_reads' X4.out).2.1) (Kd.S_reads' X5.out).2.2 (Kd.S_reads' X5.out).2.1 (Kd.R_reads' X6.out).2.2 (Kd.R_reads' X6.out).2.1 H5.out
  rw [← (Kd.R_reads' X4.out).1] at hc_
  (refine (hc_).mono ?_)
  clear hc_
  rintro e w7 ⟨rfl, hb⟩
  have Z7 : Aside0 (w6.heap.size ≤ w7.heap.size) := ⟨hb.size⟩
  have n0_ := Aside0.mk (Kd.R_below X1.out hb)
  have n1_ := Aside0.mk (Kd.S_below X2.out hb)
  have n2_ := Aside0.mk (Kd.R_below X3.out hb)
  have n3_ := Aside0.mk (Kd.R_below X4.out hb)
  have n4_ := Aside0.mk (Kd.S_below X5.out hb)
  have n5_ := Aside0.mk (Kd.R_below X6.out hb)
  have n6_ := Aside0.mk (blk_below BX1.out hb)
  have n7_ := Aside0.mk (blk_below BX2.out hb)
  have hb_ := Aside0.mk (below_then HB.out HB.out.size hb)
  clear X1 X2 X3 X4 X5 X6 BX1 BX2
  have X1 := n0_
  have X2 := n1_
  have X3 := n2_
  have X4 := n3_
  have X5 := n4_
  have X6 := n5_
  have BX1 := n6_
  have BX2 := n7_
  clear n0_ n1_ n2_ n3_ n4_ n5_ n6_ n7_
  clear HB
  have HB := hb_
  clear hb_
  clear hb
  go_wp2_with fail
  (refine (impl_NewNet.calls K2 a0 r1 r2 r3 r4 w7 H2.out).mono ?_)
  rintro e w8 ⟨v0_, v1_, v2_, rfl, hS0, hS1, hS2, hb⟩
  have X7 : Aside0 (Kd.R k70 70 w8 w.heap.size (fun k => w7.heap.size ≤ k ∧ k < w8.heap.size) v0_ r1) := ⟨Kd.R_mono (Kd.R_lower (Kd.R_bound hS0) HB.out.size) (fun k hk => ⟨hk.2.1, hk.2.2.1⟩)⟩
  have X8 : Aside0 (Kd.S k94 94 w8 w.heap.size (fun k => w7.heap.size ≤ k ∧ k < w8.heap.size) v1_ r2) := ⟨Kd.S_mono (Kd.S_lower (Kd.S_bound hS1) HB.out.size) (fun k hk => ⟨hk.2.1, hk.2.2.1⟩)⟩
  have X9 : Aside0 (Kd.R k97 97 w8 w.heap.size (fun k => w7.heap.size ≤ k ∧ k < w8.heap.size) v2_ r3) := ⟨Kd.R_mono (Kd.R_lower (Kd.R_bound hS2) HB.out.size) (fun k hk => ⟨hk.2.1, hk.2.2.1⟩)⟩
  have Z8 : Aside0 (w7.heap.size ≤ w8.heap.size) := ⟨hb.size⟩
  have n0_ := Aside0.mk (Kd.R_below X1.out hb)
  have n1_ := Aside0.mk (Kd.S_below X2.out hb)
  have n2_ := Aside0.mk (Kd.R_below X3.out hb)
  have n3_ := Aside0.mk (Kd.R_below X4.out hb)
  have n4_ := Aside0.mk (Kd.S_below X5.out hb)
  have n5_ := Aside0.mk (Kd.R_below X6.out hb)
  have n6_ := Aside0.mk (blk_below BX1.out hb)
  have n7_ := Aside0.mk (blk_below BX2.out hb)
  have hb_ := Aside0.mk (below_then HB.out HB.out.size hb)
  clear X1 X2 X3 X4 X5 X6 BX1 BX2
  have X1 := n0_
  have X2 := n1_
  have X3 := n2_
  have X4 := n3_
  have X5 := n4_
  have X6 := n5_
  have BX1 := n6_
  have BX2 := n7_
  clear n0_ n1_ n2_ n3_ n4_ n5_ n6_ n7_
  clear HB
  have HB := hb_
  clear hb_
  clear hb hS0 hS1 hS2
  obtain ⟨A7_, c7_, rfl⟩ := Kd.R_slice X7.out
  obtain ⟨A8_, c8_, rfl⟩ := Kd.S_slice X8.out
  obtain ⟨A9_, c9_, rfl⟩ := Kd.R_slice X9.out
  go_upto_region 14 with (first | ((with_reducible refine gate_dst (N := 21) rfl ?_); first | refine Kd.event_run rfl (load_run BX1.out 3 rfl 38 _ (by rfl) (by rfl) _ Try.underlying38 rfl (by kernel_rfl)) ?_) | ((with_reducible refine gate_dst (N := 22) rfl ?_); first | refine Kd.event_run rfl (load_run BX1.out 3 rfl 38 _ (by rfl) (by rfl) _ Try.underlying38 rfl (by kernel_rfl)) ?_) | ((with_reducible refine gate_dst (N := 30) rfl ?_); first | refine Kd.event_run rfl (load_run BX1.out 3 rfl 38 _ (by rfl) (by rfl) _ Try.underlying38 rfl (by kernel_rfl)) ?_) | ((with_reducible refine gate_dst (N := 33) rfl ?_); first | refine Kd.event_run rfl (load_run BX1.out 3 rfl 38 _ (by rfl) (by rfl) _ Try.underlying38 rfl (by kernel_rfl)) ?_) | ((with_reducible refine gate_dst (N := 46) rfl ?_); first | refine Kd.event_run rfl (load_run BX1.out 3 rfl 38 _ (by rfl) (by rfl) _ Try.underlying38 rfl (by kernel_rfl)) ?_) | ((with_reducible refine gate_dst (N := 47) rfl ?_); first | refine Kd.event_run rfl (load_run BX1.out 3 rfl 38 _ (by rfl) (by rfl) _ Try.underlying38 rfl (by kernel_rfl)) ?_) | ((with_reducible refine gate_dst (N := 55) rfl ?_); first | refine Kd.event_run rfl (load_run BX1.out 3 rfl 38 _ (by rfl) (by rfl) _ Try.underlying38 rfl (by kernel_rfl)) ?_))
  refine letC (fun W_ => Below w8.heap.size w8 W_ ∧ W_.heap[w8.heap.size]? = some (.cells #[.slice A7_ r1.length c7_, .slice A8_ r2.length c8_, .slice A9_ r3.length c9_] 38 (0, 0))) ?_ ?_
  · refine ⟨?_, ?_⟩
    · repeat (first | exact Below.refl _ _ | apply below_alloc | refine below_set ?_ (by first | exact Nat.le_refl _ | omega | (simp; done)))
    · exact blk_new w8 (.cells #[.slice A7_ r1.length c7_, .slice A8_ r2.length c8_, .slice A9_ r3.length c9_] 38)
  intro w9 hq_
  obtain ⟨hb, hx0_⟩ := hq_
  have Z9 : Aside0 (w8.heap.size ≤ w9.heap.size) := ⟨hb.size⟩
  have n0_ := Aside0.mk (Kd.R_below X1.out hb)
  have n1_ := Aside0.mk (Kd.S_below X2.out hb)
  have n2_ := Aside0.mk (Kd.R_below X3.out hb)
  have n3_ := Aside0.mk (Kd.R_below X4.out hb)
  have n4_ := Aside0.mk (Kd.S_below X5.out hb)
  have n5_ := Aside0.mk (Kd.R_below X6.out hb)
  have n6_ := Aside0.mk (Kd.R_below X7.out hb)
  have n7_ := Aside0.mk (Kd.S_below X8.out hb)
  have n8_ := Aside0.mk (Kd.R_below X9.out hb)
  have n9_ := Aside0.mk (blk_below BX1.out hb)
  have n10_ := Aside0.mk (blk_below BX2.out hb)
  have hb_ := Aside0.mk (below_then HB.out HB.out.size hb)
  clear X1 X2 X3 X4 X5 X6 X7 X8 X9 BX1 BX2
  have X1 := n0_
  have X2 := n1_
  have X3 := n2_
  have X4 := n3_
  have X5 := n4_
  have X6 := n5_
  have X7 := n6_
  have X8 := n7_
  have X9 := n8_
  have BX1 := n9_
  have BX2 := n10_
  clear n0_ n1_ n2_ n3_ n4_ n5_ n6_ n7_ n8_ n9_ n10_
  clear HB
  have HB := hb_
  clear hb_
  clear hb
  have BX3 : Aside0 (w9.heap[w8.heap.size]? = some (.cells #[.slice A7_ r1.length c7_, .slice A8_ r2.length c8_, .slice A9_ r3.length c9_] 38 (0, 0))) := ⟨hx0_⟩
  clear hx0_
  have GBX3 : Aside0 (w8.heap.size < w9.heap.size) := ⟨blk_lt BX3.out⟩
  go_wp2_with (first | ((with_reducible refine gate_dst (N := 21) rfl ?_); first | refine Kd.event_run rfl (load_run BX1.out 3 rfl 38 _ (by rfl) (by rfl) _ Try.underlying38 rfl (by kernel_rfl)) ?_ | refine Kd.event_run rfl (load_run BX3.out 3 rfl 38 _ (by rfl) (by rfl) _ Try.underlying38 rfl (by kernel_rfl)) ?_) | ((with_reducible refine gate_dst (N := 22) rfl ?_); first | refine Kd.event_run rfl (load_run BX1.out 3 rfl 38 _ (by rfl) (by rfl) _ Try.underlying38 rfl (by kernel_rfl)) ?_ | refine Kd.event_run rfl (load_run BX3.out 3 rfl 38 _ (by rfl) (by rfl) _ Try.underlying38 rfl (by kernel_rfl)) ?_) | ((with_reducible refine gate_dst (N := 30) rfl ?_); first | refine Kd.event_run rfl (load_run BX1.out 3 rfl 38 _ (by rfl) (by rfl) _ Try.underlying38 rfl (by kernel_rfl)) ?_ | refine Kd.event_run rfl (load_run BX3.out 3 rfl 38 _ (by rfl) (by rfl) _ Try.underlying38 rfl (by kernel_rfl)) ?_) | ((with_reducible refine gate_dst (N := 33) rfl ?_); first | refine Kd.event_run rfl (load_run BX1.out 3 rfl 38 _ (by rfl) (by rfl) _ Try.underlying38 rfl (by kernel_rfl)) ?_ | refine Kd.event_run rfl (load_run BX3.out 3 rfl 38 _ (by rfl) (by rfl) _ Try.underlying38 rfl (by kernel_rfl)) ?_) | ((with_reducible refine gate_dst (N := 46) rfl ?_); first | refine Kd.event_run rfl (load_run BX1.out 3 rfl 38 _ (by rfl) (by rfl) _ Try.underlying38 rfl (by kernel_rfl)) ?_ | refine Kd.event_run rfl (load_run BX3.out 3 rfl 38 _ (by rfl) (by rfl) _ Try.underlying38 rfl (by kernel_rfl)) ?_) | ((with_reducible refine gate_dst (N := 47) rfl ?_); first | refine Kd.event_run rfl (load_run BX1.out 3 rfl 38 _ (by rfl) (by rfl) _ Try.underlying38 rfl (by kernel_rfl)) ?_ | refine Kd.event_run rfl (load_run BX3.out 3 rfl 38 _ (by rfl) (by rfl) _ Try.underlying38 rfl (by kernel_rfl)) ?_) | ((with_reducible refine gate_dst (N := 55) rfl ?_); first | refine Kd.event_run rfl (load_run BX1.out 3 rfl 38 _ (by rfl) (by rfl) _ Try.underlying38 rfl (by kernel_rfl)) ?_ | refine Kd.event_run rfl (load_run BX3.out 3 rfl 38 _ (by rfl) (by rfl) _ Try.underlying38 rfl (by kernel_rfl)) ?_))
  (refine (laws_eqNet.calls K3 A7_ c7_ r1 A8_ c8_ r2 A9_ c9_ r3 A1_ c1_ r1 A2_ c2_ r2 A3_ c3_ r3 true w9 (Kd.R_reads' X7.out).2.2 (Kd.R_reads' X7.out).2.1 (Kd.S_reads' X8.out).2.2 (Kd.S_reads' X8.out).2.1 (Kd.R_reads' X9.out).2.2 (Kd.R_reads' X9.out).2.1 (Kd.R_reads' X1.out).2.2 (Kd.R_reads' X1.out).2.1 (Kd.S_reads' X2.out).2.2 (Kd.S_reads' X2.out).2.1 (Kd.R_reads' X3.out).2.2 (Kd.R_reads' X3.out).2.1 H3.out).mono ?_)
  rintro e w10 ⟨rfl, hb⟩
  have Z10 : Aside0 (w9.heap.size ≤ w10.heap.size) := ⟨hb.size⟩
  have n0_ := Aside0.mk (Kd.R_below X1.out hb)
  have n1_ := Aside0.mk (Kd.S_below X2.out hb)
  have n2_ := Aside0.mk (Kd.R_below X3.out hb)
  have n3_ := Aside0.mk (Kd.R_below X4.out hb)
  have n4_ := Aside0.mk (Kd.S_below X5.out hb)
  have n5_ := Aside0.mk (Kd.R_below X6.out hb)
  have n6_ := Aside0.mk (Kd.R_below X7.out hb)
  have n7_ := Aside0.mk (Kd.S_below X8.out hb)
  have n8_ := Aside0.mk (Kd.R_below X9.out hb)
  have n9_ := Aside0.mk (blk_below BX1.out hb)
  have n10_ := Aside0.mk (blk_below BX2.out hb)
  have n11_ := Aside0.mk (blk_below BX3.out hb)
  have hb_ := Aside0.mk (below_then HB.out HB.out.size hb)
  clear X1 X2 X3 X4 X5 X6 X7 X8 X9 BX1 BX2 BX3
  have X1 := n0_
  have X2 := n1_
  have X3 := n2_
  have X4 := n3_
  have X5 := n4_
  have X6 := n5_
  have X7 := n6_
  have X8 := n7_
  have X9 := n8_
  have BX1 := n9_
  have BX2 := n10_
  have BX3 := n11_
  clear n0_ n1_ n2_ n3_ n4_ n5_ n6_ n7_ n8_ n9_ n10_ n11_
  clear HB
  have HB := hb_
  clear hb_
  clear hb
  go_wp2_with (first | ((with_reducible refine gate_dst (N := 21) rfl ?_); first | refine Kd.event_run rfl (load_run BX2.out 3 rfl 38 _ (by rfl) (by rfl) _ Try.underlying38 rfl (by kernel_rfl)) ?_) | ((with_reducible refine gate_dst (N := 22) rfl ?_); first | refine Kd.event_run rfl (load_run BX2.out 3 rfl 38 _ (by rfl) (by rfl) _ Try.underlying38 rfl (by kernel_rfl)) ?_) | ((with_reducible refine gate_dst (N := 30) rfl ?_); first | refine Kd.event_run rfl (load_run BX2.out 3 rfl 38 _ (by rfl) (by rfl) _ Try.underlying38 rfl (by kernel_rfl)) ?_) | ((with_reducible refine gate_dst (N := 33) rfl ?_); first | refine Kd.event_run rfl (load_run BX2.out 3 rfl 38 _ (by rfl) (by rfl) _ Try.underlying38 rfl (by kernel_rfl)) ?_) | ((with_reducible refine gate_dst (N := 46) rfl ?_); first | refine Kd.event_run rfl (load_run BX2.out 3 rfl 38 _ (by rfl) (by rfl) _ Try.underlying38 rfl (by kernel_rfl)) ?_) | ((with_reducible refine gate_dst (N := 47) rfl ?_); first | refine Kd.event_run rfl (load_run BX2.out 3 rfl 38 _ (by rfl) (by rfl) _ Try.underlying38 rfl (by kernel_rfl)) ?_) | ((with_reducible refine gate_dst (N := 55) rfl ?_); first | refine Kd.event_run rfl (load_run BX2.out 3 rfl 38 _ (by rfl) (by rfl) _ Try.underlying38 rfl (by kernel_rfl)) ?_))
  have hc_ := laws_heldNet.calls K5 A4_ c4_ rm5 A5_ c5_ r2 A6_ c6_ r3 1 m5 w10 (Kd.R_reads' X4.out).2.2 (Nat.le_trans (Nat.le_of_eq (Kd.R_reads' X4.out).1.symm) (Kd.R_reads' X4.out).2.1) (Kd.S_reads' X5.out).2.2 (Kd.S_reads' X5.out).2.1 (Kd.R_reads' X6.out).2.2 (Kd.R_reads' X6.out).2.1 H5.out
  rw [← (Kd.R_reads' X4.out).1] at hc_
  (refine (hc_).mono ?_)
  clear hc_
  rintro e w11 ⟨rfl, hb⟩
  have Z11 : Aside0 (w10.heap.size ≤ w11.heap.size) := ⟨hb.size⟩
  have n0_ := Aside0.mk (Kd.R_below X1.out hb)
  have n1_ := Aside0.mk (Kd.S_below X2.out hb)
  have n2_ := Aside0.mk (Kd.R_below X3.out hb)
  have n3_ := Aside0.mk (Kd.R_below X4.out hb)
  have n4_ := Aside0.mk (Kd.S_below X5.out hb)
  have n5_ := Aside0.mk (Kd.R_below X6.out hb)
  have n6_ := Aside0.mk (Kd.R_below X7.out hb)
  have n7_ := Aside0.mk (Kd.S_below X8.out hb)
  have n8_ := Aside0.mk (Kd.R_below X9.out hb)
  have n9_ := Aside0.mk (blk_below BX1.out hb)
  have n10_ := Aside0.mk (blk_below BX2.out hb)
  have n11_ := Aside0.mk (blk_below BX3.out hb)
  have hb_ := Aside0.mk (below_then HB.out HB.out.size hb)
  clear X1 X2 X3 X4 X5 X6 X7 X8 X9 BX1 BX2 BX3
  have X1 := n0_
  have X2 := n1_
  have X3 := n2_
  have X4 := n3_
  have X5 := n4_
  have X6 := n5_
  have X7 := n6_
  have X8 := n7_
  have X9 := n8_
  have BX1 := n9_
  have BX2 := n10_
  have BX3 := n11_
  clear n0_ n1_ n2_ n3_ n4_ n5_ n6_ n7_ n8_ n9_ n10_ n11_
  clear HB
  have HB := hb_
  clear hb_
  clear hb
  go_wp2
  go_ret
  exact ⟨rfl, HB.out⟩

/-- THE ONE PURE STATEMENT of laws_FnExactNewNet. -/
def laws_FnExactNewNet.Pure : Prop := ∀ (a0 : Int), (Lit.int .i64 a0).wf = true → laws_FnExactNewNet.Facts a0

end Go.Proofs.Ytbhdhcflkamieaa.QFnExactNewNet
