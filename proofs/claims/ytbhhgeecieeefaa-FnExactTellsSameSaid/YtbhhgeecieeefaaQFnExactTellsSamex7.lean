-- Written by a program of this session (wip/mk.py) over the kit's print: Lean checks it.
import Derived.Test.YtbhhgeecieeefaaQFnExactTellsSamex0
import Derived.Test.YtbhhgeecieeefaaQFnExactTellsSamex2
import Derived.Test.YtbhhgeecieeefaaQFnExactTellsSamex4
import Derived.Test.YtbhhgeecieeefaaQFnExactTellsSamex5
import Derived.Test.YtbhhgeecieeefaaQFnExactTellsSamex6
namespace Go.Proofs.Ytbhhgeecieeefaa.QFnExactTellsSame
open Go.RowKit Go.Proofs.YtbhhgeecieeefaaW.PrintWords Go.Proofs.YtbhhgeecieeefaaW.PrintLast Go.Proofs.YtbhhgeecieeefaaW.PrintMore
attribute [local go_sem] max2_int min2_int max_two min_two max_three min_three max_four min_four   -- for this text's walks alone
set_option linter.unusedVariables false
set_option linter.unusedSimpArgs false

attribute [local go_sem high] eqA36
/-! ### spec_TellsSame: function 33 -/
mutual
def spec_TellsSame.j0 : Nat → List (S27) → List (S27) → Bool → Option (Bool × Bool)
  | 0, _, _, _ => none
  | k + 1, x0, x1, x27 => if x27 = true then (some (false, false)) else (spec_TellsSame.l0 k x0 x1 (x0.length : Int) 0)
def spec_TellsSame.l0 : Nat → List (S27) → List (S27) → Int → Int → Option (Bool × Bool)
  | 0, _, _, _, _ => none
  | k + 1, x0, x1, x29, x30 => if x30 < x29 then (if 0 ≤ x30 then (if x30 < (x0.length : Int) then ((spec_l11Once.f k x1 ((rd_T27 x0 x30).f0) ((rd_T27 x0 x30).f1) ((rd_T27 x0 x30).f2) ((rd_T27 x0 x30).f3) ((rd_T27 x0 x30).f4)).bind fun t174 => (if t174 < 0 then (some (false, false)) else (if x30 < (x1.length : Int) then ((spec_l11Once.f k x0 ((rd_T27 x1 x30).f0) ((rd_T27 x1 x30).f1) ((rd_T27 x1 x30).f2) ((rd_T27 x1 x30).f3) ((rd_T27 x1 x30).f4)).bind fun t176 => (if t176 < 0 then (some (false, false)) else (spec_TellsSame.l0 k x0 x1 x29 (wrap64 (x30 + 1))))) else (none)))) else (none)) else (none)) else ((spec_l11Play.f k x0).bind fun bt177 => ((spec_l11Play.f k x1).bind fun bt183 => (spec_TellsSame.l1 k x1 bt177.1 bt177.2 bt183.1 bt183.2 x0 (x0.length : Int) 0)))
def spec_TellsSame.l1 : Nat → List (S27) → List Int → List (S36) → List Int → List (S36) → List (S27) → Int → Int → Option (Bool × Bool)
  | 0, _, _, _, _, _, _, _, _ => none
  | k + 1, x1, x7, x8, x9, x10, x60, x61, x62 => if x62 < x61 then (if 0 ≤ x62 then (if x62 < (x60.length : Int) then (if x62 < (x8.length : Int) then ((spec_l11Once.f k x1 ((rd_T27 x60 x62).f0) ((rd_T27 x60 x62).f1) ((rd_T27 x60 x62).f2) ((rd_T27 x60 x62).f3) ((rd_T27 x60 x62).f4)).bind fun t192 => (if 0 ≤ t192 then (if t192 < (x10.length : Int) then (if (!(((rd_T36 x8 x62).f0) == ((rd_T36 x10 t192).f0)) || (!(((rd_T36 x8 x62).f1) == ((rd_T36 x10 t192).f1)))) = true then (some (false, true)) else (spec_TellsSame.l1 k x1 x7 x8 x9 x10 x60 x61 (wrap64 (x62 + 1)))) else (none)) else (none))) else (none)) else (none)) else (none)) else ((spec_l1Same.f k x7 x9).bind fun t194 => (some (t194, true)))
end
def spec_TellsSame.f (k : Nat) (l0 : List (S27)) (l1 : List (S27)) : Option (Bool × Bool) := (spec_l11Cmds.f k l0).bind fun t171 => (if t171 = true then ((spec_l11Cmds.f k l1).bind fun t172 => (if t172 = true then (spec_TellsSame.j0 k l0 l1 ((l0.length : Int) != (l1.length : Int))) else (spec_TellsSame.j0 k l0 l1 true))) else (spec_TellsSame.j0 k l0 l1 true))
theorem spec_TellsSame.mono_l : ∀ k, (∀ y0 y1 y2, LeO (spec_TellsSame.j0 k y0 y1 y2) (spec_TellsSame.j0 (k + 1) y0 y1 y2)) ∧ (∀ y0 y1 y2 y3, LeO (spec_TellsSame.l0 k y0 y1 y2 y3) (spec_TellsSame.l0 (k + 1) y0 y1 y2 y3)) ∧ (∀ y0 y1 y2 y3 y4 y5 y6 y7, LeO (spec_TellsSame.l1 k y0 y1 y2 y3 y4 y5 y6 y7) (spec_TellsSame.l1 (k + 1) y0 y1 y2 y3 y4 y5 y6 y7))
  | 0 => ⟨fun _ _ _ r h => by simp [spec_TellsSame.j0] at h, fun _ _ _ _ r h => by simp [spec_TellsSame.l0] at h, fun _ _ _ _ _ _ _ _ r h => by simp [spec_TellsSame.l1] at h⟩
  | k + 1 => by
    obtain ⟨ih0, ih1, ih2⟩ := spec_TellsSame.mono_l k
    refine ⟨?_, ?_, ?_⟩
    · intro y0 y1 y2
      unfold spec_TellsSame.j0
      repeat' first
      | (with_reducible exact ih0 _ _ _)
      | (with_reducible exact ih1 _ _ _ _)
      | (with_reducible exact ih2 _ _ _ _ _ _ _ _)
      | (with_reducible exact spec_l11Cmds.mono _ _)
      | (with_reducible exact spec_l11Once.mono _ _ _ _ _ _ _)
      | (with_reducible exact spec_l11Play.mono _ _)
      | (with_reducible exact spec_l1Same.mono _ _ _)
      | (with_reducible exact LeO.refl _)
      | (with_reducible exact LeO.none _)
      | (with_reducible refine LeO.ite ?_ ?_)
      | (with_reducible refine LeO.bind ?_ (fun _ => ?_))
      | exact ih0 _ _ _
      | exact ih1 _ _ _ _
      | exact ih2 _ _ _ _ _ _ _ _
      | exact spec_l11Cmds.mono _ _
      | exact spec_l11Once.mono _ _ _ _ _ _ _
      | exact spec_l11Play.mono _ _
      | exact spec_l1Same.mono _ _ _
      | exact LeO.none _
      | refine LeO.ite ?_ ?_
      | refine LeO.bind ?_ (fun _ => ?_)
    · intro y0 y1 y2 y3
      unfold spec_TellsSame.l0
      repeat' first
      | (with_reducible exact ih0 _ _ _)
      | (with_reducible exact ih1 _ _ _ _)
      | (with_reducible exact ih2 _ _ _ _ _ _ _ _)
      | (with_reducible exact spec_l11Cmds.mono _ _)
      | (with_reducible exact spec_l11Once.mono _ _ _ _ _ _ _)
      | (with_reducible exact spec_l11Play.mono _ _)
      | (with_reducible exact spec_l1Same.mono _ _ _)
      | (with_reducible exact LeO.refl _)
      | (with_reducible exact LeO.none _)
      | (with_reducible refine LeO.ite ?_ ?_)
      | (with_reducible refine LeO.bind ?_ (fun _ => ?_))
      | exact ih0 _ _ _
      | exact ih1 _ _ _ _
      | exact ih2 _ _ _ _ _ _ _ _
      | exact spec_l11Cmds.mono _ _
      | exact spec_l11Once.mono _ _ _ _ _ _ _
      | exact spec_l11Play.mono _ _
      | exact spec_l1Same.mono _ _ _
      | exact LeO.none _
      | refine LeO.ite ?_ ?_
      | refine LeO.bind ?_ (fun _ => ?_)
    · intro y0 y1 y2 y3 y4 y5 y6 y7
      unfold spec_TellsSame.l1
      repeat' first
      | (with_reducible exact ih0 _ _ _)
      | (with_reducible exact ih1 _ _ _ _)
      | (with_reducible exact ih2 _ _ _ _ _ _ _ _)
      | (with_reducible exact spec_l11Cmds.mono _ _)
      | (with_reducible exact spec_l11Once.mono _ _ _ _ _ _ _)
      | (with_reducible exact spec_l11Play.mono _ _)
      | (with_reducible exact spec_l1Same.mono _ _ _)
      | (with_reducible exact LeO.refl _)
      | (with_reducible exact LeO.none _)
      | (with_reducible refine LeO.ite ?_ ?_)
      | (with_reducible refine LeO.bind ?_ (fun _ => ?_))
      | exact ih0 _ _ _
      | exact ih1 _ _ _ _
      | exact ih2 _ _ _ _ _ _ _ _
      | exact spec_l11Cmds.mono _ _
      | exact spec_l11Once.mono _ _ _ _ _ _ _
      | exact spec_l11Play.mono _ _
      | exact spec_l1Same.mono _ _ _
      | exact LeO.none _
      | refine LeO.ite ?_ ?_
      | refine LeO.bind ?_ (fun _ => ?_)
theorem spec_TellsSame.mono : ∀ a0 a1 k, LeO (spec_TellsSame.f k a0 a1) (spec_TellsSame.f (k + 1) a0 a1) := by
  intro a0 a1 k
  obtain ⟨ih0, ih1, ih2⟩ := spec_TellsSame.mono_l k
  unfold spec_TellsSame.f
  repeat' first
      | (with_reducible exact ih0 _ _ _)
      | (with_reducible exact ih1 _ _ _ _)
      | (with_reducible exact ih2 _ _ _ _ _ _ _ _)
      | (with_reducible exact spec_l11Cmds.mono _ _)
      | (with_reducible exact spec_l11Once.mono _ _ _ _ _ _ _)
      | (with_reducible exact spec_l11Play.mono _ _)
      | (with_reducible exact spec_l1Same.mono _ _ _)
      | (with_reducible exact LeO.refl _)
      | (with_reducible exact LeO.none _)
      | (with_reducible refine LeO.ite ?_ ?_)
      | (with_reducible refine LeO.bind ?_ (fun _ => ?_))
      | exact ih0 _ _ _
      | exact ih1 _ _ _ _
      | exact ih2 _ _ _ _ _ _ _ _
      | exact spec_l11Cmds.mono _ _
      | exact spec_l11Once.mono _ _ _ _ _ _ _
      | exact spec_l11Play.mono _ _
      | exact spec_l1Same.mono _ _ _
      | exact LeO.none _
      | refine LeO.ite ?_ ?_
      | refine LeO.bind ?_ (fun _ => ?_)
def spec_TellsSame.T14 : Bool × List (List Nat × List Nat) := (true, [([], []), ([], []), ([0, 1], [0, 1]), ([2], [2]), ([], []), ([], []), ([], []), ([5, 6], [5, 6]), ([4, 7], [4, 7]), ([8], [8]), ([3, 9], [3, 9])])
def spec_TellsSame.B14 : List Nat := [0, 0, 3, 7, 0, 0, 0, 96, 240, 496, 1023]
theorem spec_TellsSame.tab14 : rtab .any (opsOf Try.f33 14) = spec_TellsSame.T14 := by kernel_rfl
theorem spec_TellsSame.bits14 : waitsOk spec_TellsSame.T14.2 spec_TellsSame.B14 = true := by kernel_rfl
set_option maxHeartbeats 8000000 in
set_option maxRecDepth 100000 in
theorem spec_TellsSame.calls (k : Nat) (A0 : Option Addr) (c0 : Nat) (l0 : List (S27)) (A1 : Option Addr) (c1 : Nat) (l1 : List (S27)) (r1 : Bool) (r2 : Bool) (w : World) (hr0 : Kd.C k27 w A0 l0.length l0) (hc0 : l0.length ≤ c0) (hr1 : Kd.C k27 w A1 l1.length l1) (hc1 : l1.length ≤ c1) (h : spec_TellsSame.f k l0 l1 = some (r1, r2)) :
    Calls Try.prog 33 #[.slice A0 l0.length c0, .slice A1 l1.length c1] w fun e w' => e = .returned (.tuple #[.bool r1, .bool r2]) ∧ Below w.heap.size w w' := by
  have hu27 := Try.underlying27
  have hu36 := Try.underlying36
  have HR0 := Aside0.mk hr0
  have HC0 := Aside0.mk hc0
  clear hr0 hc0
  have HR1 := Aside0.mk hr1
  have HC1 := Aside0.mk hc1
  clear hr1 hc1
  have HB := Aside0.mk (Below.refl w.heap.size w)
  have H : ((spec_l11Cmds.f k l0).bind fun t171 => (if t171 = true then ((spec_l11Cmds.f k l1).bind fun t172 => (if t172 = true then (spec_TellsSame.j0 k l0 l1 ((l0.length : Int) != (l1.length : Int))) else (spec_TellsSame.j0 k l0 l1 true))) else (spec_TellsSame.j0 k l0 l1 true))) = some (r1, r2) := h
  clear h
  have HC3 := Aside0.mk H
  clear H
  go_enter Try.func33, Try.ntmps33
  go_upto_region 1 with (fail)
  go_cut [27] (fun v27 wc => ∃ (kq : Nat) (x27_2 : Bool), v27 = .bool x27_2 ∧ Aside0 (spec_TellsSame.j0 kq l0 l1 x27_2 = some (r1, r2)) ∧ Aside0 (kq ≤ k) ∧ Aside0 (Below w.heap.size w wc))
  case first =>
    have H := HC3.out
    clear HC3
    replace H := Option.bind_eq_some_iff.mp H
    obtain ⟨t171, A40, H⟩ := H
    replace H : (if t171 = true then ((spec_l11Cmds.f k l1).bind fun t172 => (if t172 = true then (spec_TellsSame.j0 k l0 l1 ((l0.length : Int) != (l1.length : Int))) else (spec_TellsSame.j0 k l0 l1 true))) else (spec_TellsSame.j0 k l0 l1 true)) = some (r1, r2) := H
    have A4 := Aside0.mk A40
    clear A40
    by_cases c5 : t171 = true
    · subst c5
      have H1 : ((spec_l11Cmds.f k l1).bind fun t172 => (if t172 = true then (spec_TellsSame.j0 k l0 l1 ((l0.length : Int) != (l1.length : Int))) else (spec_TellsSame.j0 k l0 l1 true))) = some (r1, r2) := by rw [if_pos rfl] at H; exact H
      clear H
      have H := H1
      clear H1
      replace H := Option.bind_eq_some_iff.mp H
      obtain ⟨t172, A60, H⟩ := H
      replace H : (if t172 = true then (spec_TellsSame.j0 k l0 l1 ((l0.length : Int) != (l1.length : Int))) else (spec_TellsSame.j0 k l0 l1 true)) = some (r1, r2) := H
      have A6 := Aside0.mk A60
      clear A60
      by_cases c7 : t172 = true
      · subst c7
        have H1 : (spec_TellsSame.j0 k l0 l1 ((l0.length : Int) != (l1.length : Int))) = some (r1, r2) := by rw [if_pos rfl] at H; exact H
        clear H
        have H := H1
        clear H1
        have H' := Aside0.mk H
        clear H
        go_wp2_with (first | ((with_reducible refine gate_callee (f := 64) rfl ?_); refine goesL_ (some 14) rfl rfl Try.func64 (by kernel_rfl) rfl #[.slice A0 l0.length c0] rfl (by (try simp only [List.map_toArray, List.map_cons, List.map_nil]); first | done | rfl | (simp only [List.length_drop, List.length_take]; rfl)) ?_; (with_reducible refine (spec_l11Cmds.calls k _ _ l0 true _ ?side1 ?side2 A4.out).mono ?_); (case side1 => repeat (first | exact (Kd.C_below HR0.out HB.out) | (with_reducible refine Kd.C_alloc ?_ _) | (with_reducible refine Kd.C_drewN ?_ _) | (with_reducible refine Kd.C_drew ?_))); (case side2 => exact HC0.out); rintro e w8 ⟨rfl, hb⟩; refine ⟨_, rfl, ?_⟩; have n0_ := Aside0.mk (below_step (by repeat (first | (with_reducible first | exact HB.out | apply below_alloc | apply pw_below_drewN | apply below_drew1) | exact HB.out)) hb); clear HB; have HB := n0_; clear n0_; (try clear hb); (try clear hb2); (try clear hk); (try clear hi)) | (go_at_call 64; (with_reducible refine (spec_l11Cmds.calls k _ _ l1 true _ ?side1 ?side2 A6.out).mono ?_); (case side1 => repeat (first | exact (Kd.C_below HR1.out HB.out) | (with_reducible refine Kd.C_alloc ?_ _) | (with_reducible refine Kd.C_drewN ?_ _) | (with_reducible refine Kd.C_drew ?_))); (case side2 => exact HC1.out); rintro e w9 ⟨rfl, hb⟩; have n0_ := Aside0.mk (below_step (by repeat (first | (with_reducible first | exact HB.out | apply below_alloc | apply pw_below_drewN | apply below_drew1) | exact HB.out)) hb); clear HB; have HB := n0_; clear n0_; (try clear hb); (try clear hb2); (try clear hk); (try clear hi)))
        go_meet
        case rel => exact ⟨_, (((l0.length : Int) != (l1.length : Int))), (by first | rfl | (simp; done) | (simp [*]; done)), H', ⟨by first | omega | exact Nat.le_refl _⟩, ⟨by repeat (first | (with_reducible first | exact HB.out | apply below_alloc | apply pw_below_drewN | apply below_drew1) | exact HB.out)⟩⟩
      · replace c7 := Bool.eq_false_iff.mpr c7
        subst c7
        have H1 : (spec_TellsSame.j0 k l0 l1 true) = some (r1, r2) := by rw [if_neg (show ¬ (false = true) by decide)] at H; exact H
        clear H
        have H := H1
        clear H1
        have H' := Aside0.mk H
        clear H
        go_wp2_with (first | ((with_reducible refine gate_callee (f := 64) rfl ?_); refine goesL_ (some 14) rfl rfl Try.func64 (by kernel_rfl) rfl #[.slice A0 l0.length c0] rfl (by (try simp only [List.map_toArray, List.map_cons, List.map_nil]); first | done | rfl | (simp only [List.length_drop, List.length_take]; rfl)) ?_; (with_reducible refine (spec_l11Cmds.calls k _ _ l0 true _ ?side1 ?side2 A4.out).mono ?_); (case side1 => repeat (first | exact (Kd.C_below HR0.out HB.out) | (with_reducible refine Kd.C_alloc ?_ _) | (with_reducible refine Kd.C_drewN ?_ _) | (with_reducible refine Kd.C_drew ?_))); (case side2 => exact HC0.out); rintro e w10 ⟨rfl, hb⟩; refine ⟨_, rfl, ?_⟩; have n0_ := Aside0.mk (below_step (by repeat (first | (with_reducible first | exact HB.out | apply below_alloc | apply pw_below_drewN | apply below_drew1) | exact HB.out)) hb); clear HB; have HB := n0_; clear n0_; (try clear hb); (try clear hb2); (try clear hk); (try clear hi)) | (go_at_call 64; (with_reducible refine (spec_l11Cmds.calls k _ _ l1 false _ ?side1 ?side2 A6.out).mono ?_); (case side1 => repeat (first | exact (Kd.C_below HR1.out HB.out) | (with_reducible refine Kd.C_alloc ?_ _) | (with_reducible refine Kd.C_drewN ?_ _) | (with_reducible refine Kd.C_drew ?_))); (case side2 => exact HC1.out); rintro e w11 ⟨rfl, hb⟩; have n0_ := Aside0.mk (below_step (by repeat (first | (with_reducible first | exact HB.out | apply below_alloc | apply pw_below_drewN | apply below_drew1) | exact HB.out)) hb); clear HB; have HB := n0_; clear n0_; (try clear hb); (try clear hb2); (try clear hk); (try clear hi)))
        go_meet
        case rel => exact ⟨_, (true), (by first | rfl | (simp; done) | (simp [*]; done)), H', ⟨by first | omega | exact Nat.le_refl _⟩, ⟨by repeat (first | (with_reducible first | exact HB.out | apply below_alloc | apply pw_below_drewN | apply below_drew1) | exact HB.out)⟩⟩
    · replace c5 := Bool.eq_false_iff.mpr c5
      subst c5
      have H1 : (spec_TellsSame.j0 k l0 l1 true) = some (r1, r2) := by rw [if_neg (show ¬ (false = true) by decide)] at H; exact H
      clear H
      have H := H1
      clear H1
      have H' := Aside0.mk H
      clear H
      go_wp2_with (first | ((with_reducible refine gate_callee (f := 64) rfl ?_); refine goesL_ (some 14) rfl rfl Try.func64 (by kernel_rfl) rfl #[.slice A0 l0.length c0] rfl (by (try simp only [List.map_toArray, List.map_cons, List.map_nil]); first | done | rfl | (simp only [List.length_drop, List.length_take]; rfl)) ?_; (with_reducible refine (spec_l11Cmds.calls k _ _ l0 false _ ?side1 ?side2 A4.out).mono ?_); (case side1 => repeat (first | exact (Kd.C_below HR0.out HB.out) | (with_reducible refine Kd.C_alloc ?_ _) | (with_reducible refine Kd.C_drewN ?_ _) | (with_reducible refine Kd.C_drew ?_))); (case side2 => exact HC0.out); rintro e w12 ⟨rfl, hb⟩; refine ⟨_, rfl, ?_⟩; have n0_ := Aside0.mk (below_step (by repeat (first | (with_reducible first | exact HB.out | apply below_alloc | apply pw_below_drewN | apply below_drew1) | exact HB.out)) hb); clear HB; have HB := n0_; clear n0_; (try clear hb); (try clear hb2); (try clear hk); (try clear hi)))
      go_meet
      case rel => exact ⟨_, (true), (by first | rfl | (simp; done) | (simp [*]; done)), H', ⟨by first | omega | exact Nat.le_refl _⟩, ⟨by repeat (first | (with_reducible first | exact HB.out | apply below_alloc | apply pw_below_drewN | apply below_drew1) | exact HB.out)⟩⟩
  case rest =>
    clear HC3
    try clear c1
    try clear p2
    try clear c3
    try clear c5
    try clear c6
    try clear c7
    obtain ⟨kq, x27_2, rfl, HA, HJ2, HB⟩ := hcut
    cases kq with
    | zero => exact absurd HA.out (by simp [spec_TellsSame.j0])
    | succ kj2 =>
      have H := HA.out
      clear HA
      simp only [spec_TellsSame.j0] at H
      by_cases c13 : x27_2 = true
      · subst c13
        have H1 : (some (false, false)) = some (r1, r2) := by rw [if_pos rfl] at H; exact H
        clear H
        have H := H1
        clear H1
        simp only [Option.some.injEq, Prod.mk.injEq] at H
        obtain ⟨rfl, rfl⟩ := H
        go_wp2
        go_ret2
        exact ⟨by first | rfl | (simp [errW_none, errW_some] <;> rfl) | (simp [*, errW_none, errW_some] <;> rfl), by repeat (first | (with_reducible first | exact HB.out | apply below_alloc | apply pw_below_drewN | apply below_drew1) | exact HB.out)⟩
      · replace c13 := Bool.eq_false_iff.mpr c13
        subst c13
        have H1 : (spec_TellsSame.l0 kj2 l0 l1 (l0.length : Int) 0) = some (r1, r2) := by rw [if_neg (show ¬ (false = true) by decide)] at H; exact H
        clear H
        have H := H1
        clear H1
        have H' := Aside0.mk H
        clear H
        go_wp2
        go_loopg [30] kj2 (fun kq v30 w' => ∃ (x30_2 : Int), v30 = .int .i64 x30_2 ∧ Aside0 (spec_TellsSame.l0 kq l0 l1 (l0.length : Int) x30_2 = some (r1, r2)) ∧ Aside0 (kq ≤ kj2) ∧ Aside0 (Below w.heap.size w w'))
        case atStart => exact ⟨(0), (by first | rfl | (simp; done) | (simp [*]; done)), H', ⟨Nat.le_refl _⟩, ⟨by repeat (first | (with_reducible first | exact HB.out | apply below_alloc | apply pw_below_drewN | apply below_drew1) | exact HB.out)⟩⟩
        case round =>
          clear H'
          try clear c1
          try clear p2
          try clear c3
          try clear c5
          try clear c6
          try clear c7
          try clear c13
          try clear p2
          obtain ⟨x30_2, rfl, HA, HK2, HB⟩ := hrel
          cases gk with
          | zero => exact absurd HA.out (by simp [spec_TellsSame.l0])
          | succ k2 =>
            have H := HA.out
            clear HA
            simp only [spec_TellsSame.l0] at H
            by_cases c14 : x30_2 < (l0.length : Int)
            · rw [if_pos c14] at H
              have c14b0 : decide (x30_2 < (l0.length : Int)) = true := decide_eq_true c14
              clear c14
              by_cases c15 : 0 ≤ x30_2
              · rw [if_pos c15] at H
                have c15b0 : decide (0 ≤ x30_2) = true := decide_eq_true c15
                clear c15
                by_cases c16 : x30_2 < (l0.length : Int)
                · rw [if_pos c16] at H
                  have c16b0 : decide (x30_2 < (l0.length : Int)) = true := decide_eq_true c16
                  clear c16
                  replace H := Option.bind_eq_some_iff.mp H
                  obtain ⟨t174, A170, H⟩ := H
                  replace H : (if t174 < 0 then (some (false, false)) else (if x30_2 < (l1.length : Int) then ((spec_l11Once.f k2 l0 ((rd_T27 l1 x30_2).f0) ((rd_T27 l1 x30_2).f1) ((rd_T27 l1 x30_2).f2) ((rd_T27 l1 x30_2).f3) ((rd_T27 l1 x30_2).f4)).bind fun t176 => (if t176 < 0 then (some (false, false)) else (spec_TellsSame.l0 k2 l0 l1 (l0.length : Int) (wrap64 (x30_2 + 1))))) else (none))) = some (r1, r2) := H
                  have A17 := Aside0.mk A170
                  clear A170
                  by_cases c18 : t174 < 0
                  · rw [if_pos c18] at H
                    have c18b0 : decide (t174 < 0) = true := decide_eq_true c18
                    clear c18
                    simp only [Option.some.injEq, Prod.mk.injEq] at H
                    obtain ⟨rfl, rfl⟩ := H
                    have p173 : 0 ≤ (x30_2 : Int) := of_decide_eq_true (by first | (with_reducible assumption) | assumption)
                    have q173 : x30_2 < (l0.length : Int) := of_decide_eq_true (by first | (with_reducible assumption) | assumption)
                    obtain ⟨ad173, e173, hx173_0, hx173_1, hx173_2, hx173_3, hx173_4⟩ := at_T27 HR0.out x30_2 p173 q173
                    cases e173
                    replace hx173_0 := (HB.out.cell (World.block_lt_of_cell? w _ hx173_0)).trans hx173_0
                    replace hx173_1 := (HB.out.cell (World.block_lt_of_cell? w _ hx173_1)).trans hx173_1
                    replace hx173_2 := (HB.out.cell (World.block_lt_of_cell? w _ hx173_2)).trans hx173_2
                    replace hx173_3 := (HB.out.cell (World.block_lt_of_cell? w _ hx173_3)).trans hx173_3
                    replace hx173_4 := (HB.out.cell (World.block_lt_of_cell? w _ hx173_4)).trans hx173_4
                    replace p173 := eq_true p173
                    replace q173 := eq_true q173
                    go_wp2_with (first | ((with_reducible refine gate_callee (f := 69) rfl ?_); refine goesL_ (some 38) rfl rfl Try.func69 (by kernel_rfl) rfl #[.slice A1 l1.length c1, .agg #[.int .i64 ((rd_T27 l0 x30_2).f0), .int .i64 ((rd_T27 l0 x30_2).f1), .int .i64 ((rd_T27 l0 x30_2).f2), .int .i64 ((rd_T27 l0 x30_2).f3), .int .i64 ((rd_T27 l0 x30_2).f4)]] rfl (by (try simp only [List.map_toArray, List.map_cons, List.map_nil]); first | done | rfl | (simp only [List.length_drop, List.length_take]; rfl)) ?_; (with_reducible refine (spec_l11Once.calls k2 _ _ l1 ((rd_T27 l0 x30_2).f0) ((rd_T27 l0 x30_2).f1) ((rd_T27 l0 x30_2).f2) ((rd_T27 l0 x30_2).f3) ((rd_T27 l0 x30_2).f4) t174 _ ?side1 ?side2 A17.out).mono ?_); (case side1 => repeat (first | exact (Kd.C_below HR1.out HB.out) | (with_reducible refine Kd.C_alloc ?_ _) | (with_reducible refine Kd.C_drewN ?_ _) | (with_reducible refine Kd.C_drew ?_))); (case side2 => exact HC1.out); rintro e w19 ⟨rfl, hb⟩; refine ⟨_, rfl, ?_⟩; have n0_ := Aside0.mk (below_step (by repeat (first | (with_reducible first | exact HB.out | apply below_alloc | apply pw_below_drewN | apply below_drew1) | exact HB.out)) hb); clear HB; have HB := n0_; clear n0_; (try clear hb); (try clear hb2); (try clear hk); (try clear hi)))
                    go_ret2
                    exact ⟨by first | rfl | (simp [errW_none, errW_some] <;> rfl) | (simp [*, errW_none, errW_some] <;> rfl), by repeat (first | (with_reducible first | exact HB.out | apply below_alloc | apply pw_below_drewN | apply below_drew1) | exact HB.out)⟩
                  · rw [if_neg c18] at H
                    have c18b0 : decide (t174 < 0) = false := decide_eq_false c18
                    clear c18
                    by_cases c20 : x30_2 < (l1.length : Int)
                    · rw [if_pos c20] at H
                      have c20b0 : decide (x30_2 < (l1.length : Int)) = true := decide_eq_true c20
                      clear c20
                      replace H := Option.bind_eq_some_iff.mp H
                      obtain ⟨t176, A210, H⟩ := H
                      replace H : (if t176 < 0 then (some (false, false)) else (spec_TellsSame.l0 k2 l0 l1 (l0.length : Int) (wrap64 (x30_2 + 1)))) = some (r1, r2) := H
                      have A21 := Aside0.mk A210
                      clear A210
                      by_cases c22 : t176 < 0
                      · rw [if_pos c22] at H
                        have c22b0 : decide (t176 < 0) = true := decide_eq_true c22
                        clear c22
                        simp only [Option.some.injEq, Prod.mk.injEq] at H
                        obtain ⟨rfl, rfl⟩ := H
                        have p173 : 0 ≤ (x30_2 : Int) := of_decide_eq_true (by first | (with_reducible assumption) | assumption)
                        have q173 : x30_2 < (l0.length : Int) := of_decide_eq_true (by first | (with_reducible assumption) | assumption)
                        obtain ⟨ad173, e173, hx173_0, hx173_1, hx173_2, hx173_3, hx173_4⟩ := at_T27 HR0.out x30_2 p173 q173
                        cases e173
                        replace hx173_0 := (HB.out.cell (World.block_lt_of_cell? w _ hx173_0)).trans hx173_0
                        replace hx173_1 := (HB.out.cell (World.block_lt_of_cell? w _ hx173_1)).trans hx173_1
                        replace hx173_2 := (HB.out.cell (World.block_lt_of_cell? w _ hx173_2)).trans hx173_2
                        replace hx173_3 := (HB.out.cell (World.block_lt_of_cell? w _ hx173_3)).trans hx173_3
                        replace hx173_4 := (HB.out.cell (World.block_lt_of_cell? w _ hx173_4)).trans hx173_4
                        replace p173 := eq_true p173
                        replace q173 := eq_true q173
                        go_wp2_with (first | ((with_reducible refine gate_callee (f := 69) rfl ?_); refine goesL_ (some 38) rfl rfl Try.func69 (by kernel_rfl) rfl #[.slice A1 l1.length c1, .agg #[.int .i64 ((rd_T27 l0 x30_2).f0), .int .i64 ((rd_T27 l0 x30_2).f1), .int .i64 ((rd_T27 l0 x30_2).f2), .int .i64 ((rd_T27 l0 x30_2).f3), .int .i64 ((rd_T27 l0 x30_2).f4)]] rfl (by (try simp only [List.map_toArray, List.map_cons, List.map_nil]); first | done | rfl | (simp only [List.length_drop, List.length_take]; rfl)) ?_; (with_reducible refine (spec_l11Once.calls k2 _ _ l1 ((rd_T27 l0 x30_2).f0) ((rd_T27 l0 x30_2).f1) ((rd_T27 l0 x30_2).f2) ((rd_T27 l0 x30_2).f3) ((rd_T27 l0 x30_2).f4) t174 _ ?side1 ?side2 A17.out).mono ?_); (case side1 => repeat (first | exact (Kd.C_below HR1.out HB.out) | (with_reducible refine Kd.C_alloc ?_ _) | (with_reducible refine Kd.C_drewN ?_ _) | (with_reducible refine Kd.C_drew ?_))); (case side2 => exact HC1.out); rintro e w23 ⟨rfl, hb⟩; refine ⟨_, rfl, ?_⟩; have n0_ := Aside0.mk (below_step (by repeat (first | (with_reducible first | exact HB.out | apply below_alloc | apply pw_below_drewN | apply below_drew1) | exact HB.out)) hb); clear HB; have HB := n0_; clear n0_; (try clear hb); (try clear hb2); (try clear hk); (try clear hi); have p175 : 0 ≤ (x30_2 : Int) := of_decide_eq_true (by first | (with_reducible assumption) | assumption); have q175 : x30_2 < (l1.length : Int) := of_decide_eq_true (by first | (with_reducible assumption) | assumption); obtain ⟨ad175, e175, hx175_0, hx175_1, hx175_2, hx175_3, hx175_4⟩ := at_T27 HR1.out x30_2 p175 q175; cases e175; replace hx175_0 := (HB.out.cell (World.block_lt_of_cell? w _ hx175_0)).trans hx175_0; replace hx175_1 := (HB.out.cell (World.block_lt_of_cell? w _ hx175_1)).trans hx175_1; replace hx175_2 := (HB.out.cell (World.block_lt_of_cell? w _ hx175_2)).trans hx175_2; replace hx175_3 := (HB.out.cell (World.block_lt_of_cell? w _ hx175_3)).trans hx175_3; replace hx175_4 := (HB.out.cell (World.block_lt_of_cell? w _ hx175_4)).trans hx175_4; replace p175 := eq_true p175; replace q175 := eq_true q175) | (go_at_call 69; (with_reducible refine (spec_l11Once.calls k2 _ _ l0 ((rd_T27 l1 x30_2).f0) ((rd_T27 l1 x30_2).f1) ((rd_T27 l1 x30_2).f2) ((rd_T27 l1 x30_2).f3) ((rd_T27 l1 x30_2).f4) t176 _ ?side1 ?side2 A21.out).mono ?_); (case side1 => repeat (first | exact (Kd.C_below HR0.out HB.out) | (with_reducible refine Kd.C_alloc ?_ _) | (with_reducible refine Kd.C_drewN ?_ _) | (with_reducible refine Kd.C_drew ?_))); (case side2 => exact HC0.out); rintro e w24 ⟨rfl, hb⟩; have n0_ := Aside0.mk (below_step (by repeat (first | (with_reducible first | exact HB.out | apply below_alloc | apply pw_below_drewN | apply below_drew1) | exact HB.out)) hb); clear HB; have HB := n0_; clear n0_; (try clear hb); (try clear hb2); (try clear hk); (try clear hi)))
                        go_ret2
                        exact ⟨by first | rfl | (simp [errW_none, errW_some] <;> rfl) | (simp [*, errW_none, errW_some] <;> rfl), by repeat (first | (with_reducible first | exact HB.out | apply below_alloc | apply pw_below_drewN | apply below_drew1) | exact HB.out)⟩
                      · rw [if_neg c22] at H
                        have c22b0 : decide (t176 < 0) = false := decide_eq_false c22
                        clear c22
                        have H' := Aside0.mk H
                        clear H
                        have p173 : 0 ≤ (x30_2 : Int) := of_decide_eq_true (by first | (with_reducible assumption) | assumption)
                        have q173 : x30_2 < (l0.length : Int) := of_decide_eq_true (by first | (with_reducible assumption) | assumption)
                        obtain ⟨ad173, e173, hx173_0, hx173_1, hx173_2, hx173_3, hx173_4⟩ := at_T27 HR0.out x30_2 p173 q173
                        cases e173
                        replace hx173_0 := (HB.out.cell (World.block_lt_of_cell? w _ hx173_0)).trans hx173_0
                        replace hx173_1 := (HB.out.cell (World.block_lt_of_cell? w _ hx173_1)).trans hx173_1
                        replace hx173_2 := (HB.out.cell (World.block_lt_of_cell? w _ hx173_2)).trans hx173_2
                        replace hx173_3 := (HB.out.cell (World.block_lt_of_cell? w _ hx173_3)).trans hx173_3
                        replace hx173_4 := (HB.out.cell (World.block_lt_of_cell? w _ hx173_4)).trans hx173_4
                        replace p173 := eq_true p173
                        replace q173 := eq_true q173
                        go_wp2_with (first | ((with_reducible refine gate_callee (f := 69) rfl ?_); refine goesL_ (some 38) rfl rfl Try.func69 (by kernel_rfl) rfl #[.slice A1 l1.length c1, .agg #[.int .i64 ((rd_T27 l0 x30_2).f0), .int .i64 ((rd_T27 l0 x30_2).f1), .int .i64 ((rd_T27 l0 x30_2).f2), .int .i64 ((rd_T27 l0 x30_2).f3), .int .i64 ((rd_T27 l0 x30_2).f4)]] rfl (by (try simp only [List.map_toArray, List.map_cons, List.map_nil]); first | done | rfl | (simp only [List.length_drop, List.length_take]; rfl)) ?_; (with_reducible refine (spec_l11Once.calls k2 _ _ l1 ((rd_T27 l0 x30_2).f0) ((rd_T27 l0 x30_2).f1) ((rd_T27 l0 x30_2).f2) ((rd_T27 l0 x30_2).f3) ((rd_T27 l0 x30_2).f4) t174 _ ?side1 ?side2 A17.out).mono ?_); (case side1 => repeat (first | exact (Kd.C_below HR1.out HB.out) | (with_reducible refine Kd.C_alloc ?_ _) | (with_reducible refine Kd.C_drewN ?_ _) | (with_reducible refine Kd.C_drew ?_))); (case side2 => exact HC1.out); rintro e w25 ⟨rfl, hb⟩; refine ⟨_, rfl, ?_⟩; have n0_ := Aside0.mk (below_step (by repeat (first | (with_reducible first | exact HB.out | apply below_alloc | apply pw_below_drewN | apply below_drew1) | exact HB.out)) hb); clear HB; have HB := n0_; clear n0_; (try clear hb); (try clear hb2); (try clear hk); (try clear hi); have p175 : 0 ≤ (x30_2 : Int) := of_decide_eq_true (by first | (with_reducible assumption) | assumption); have q175 : x30_2 < (l1.length : Int) := of_decide_eq_true (by first | (with_reducible assumption) | assumption); obtain ⟨ad175, e175, hx175_0, hx175_1, hx175_2, hx175_3, hx175_4⟩ := at_T27 HR1.out x30_2 p175 q175; cases e175; replace hx175_0 := (HB.out.cell (World.block_lt_of_cell? w _ hx175_0)).trans hx175_0; replace hx175_1 := (HB.out.cell (World.block_lt_of_cell? w _ hx175_1)).trans hx175_1; replace hx175_2 := (HB.out.cell (World.block_lt_of_cell? w _ hx175_2)).trans hx175_2; replace hx175_3 := (HB.out.cell (World.block_lt_of_cell? w _ hx175_3)).trans hx175_3; replace hx175_4 := (HB.out.cell (World.block_lt_of_cell? w _ hx175_4)).trans hx175_4; replace p175 := eq_true p175; replace q175 := eq_true q175) | (go_at_call 69; (with_reducible refine (spec_l11Once.calls k2 _ _ l0 ((rd_T27 l1 x30_2).f0) ((rd_T27 l1 x30_2).f1) ((rd_T27 l1 x30_2).f2) ((rd_T27 l1 x30_2).f3) ((rd_T27 l1 x30_2).f4) t176 _ ?side1 ?side2 A21.out).mono ?_); (case side1 => repeat (first | exact (Kd.C_below HR0.out HB.out) | (with_reducible refine Kd.C_alloc ?_ _) | (with_reducible refine Kd.C_drewN ?_ _) | (with_reducible refine Kd.C_drew ?_))); (case side2 => exact HC0.out); rintro e w26 ⟨rfl, hb⟩; have n0_ := Aside0.mk (below_step (by repeat (first | (with_reducible first | exact HB.out | apply below_alloc | apply pw_below_drewN | apply below_drew1) | exact HB.out)) hb); clear HB; have HB := n0_; clear n0_; (try clear hb); (try clear hb2); (try clear hk); (try clear hi)))
                        go_roundg k2
                        case measure => have := HJ2.out; have := HK2.out; omega
                        case rel => exact ⟨(wrap64 (x30_2 + 1)), (by first | rfl | (simp; done) | (simp [*]; done)), H', ⟨by have := HJ2.out; have := HK2.out; omega⟩, ⟨by repeat (first | (with_reducible first | exact HB.out | apply below_alloc | apply pw_below_drewN | apply below_drew1) | exact HB.out)⟩⟩
                    · rw [if_neg c20] at H
                      exact absurd H (by simp)
                · rw [if_neg c16] at H
                  exact absurd H (by simp)
              · rw [if_neg c15] at H
                exact absurd H (by simp)
            · rw [if_neg c14] at H
              have c14b0 : decide (x30_2 < (l0.length : Int)) = false := decide_eq_false c14
              clear c14
              replace H := Option.bind_eq_some_iff.mp H
              obtain ⟨⟨t177, t178⟩, A270, H⟩ := H
              replace H : ((spec_l11Play.f k2 l1).bind fun bt183 => (spec_TellsSame.l1 k2 l1 t177 t178 bt183.1 bt183.2 l0 (l0.length : Int) 0)) = some (r1, r2) := H
              have A27 := Aside0.mk A270
              clear A270
              replace H := Option.bind_eq_some_iff.mp H
              obtain ⟨⟨t183, t184⟩, A280, H⟩ := H
              replace H : (spec_TellsSame.l1 k2 l1 t177 t178 t183 t184 l0 (l0.length : Int) 0) = some (r1, r2) := H
              have A28 := Aside0.mk A280
              clear A280
              have H' := Aside0.mk H
              clear H
              go_wp2_with (first | ((with_reducible refine gate_callee (f := 65) rfl ?_); refine goesL_ (some 52) rfl rfl Try.func65 (by kernel_rfl) rfl #[.slice A0 l0.length c0] rfl (by (try simp only [List.map_toArray, List.map_cons, List.map_nil]); first | done | rfl | (simp only [List.length_drop, List.length_take]; rfl)) ?_; (with_reducible refine (spec_l11Play.calls k2 _ _ l0 t177 t178 _ ?side1 ?side2 A27.out).mono ?_); (case side1 => repeat (first | exact (Kd.C_below HR0.out HB.out) | (with_reducible refine Kd.C_alloc ?_ _) | (with_reducible refine Kd.C_drewN ?_ _) | (with_reducible refine Kd.C_drew ?_))); (case side2 => exact HC0.out); rintro e w29 ⟨v179, v181, rfl, ho0, ho1, hb⟩; refine ⟨_, rfl, ?_⟩; have n0_ := Aside0.mk (Kd.R_lower ho0 (below_size (by repeat (first | (with_reducible first | exact HB.out | apply below_alloc | apply pw_below_drewN | apply below_drew1) | exact HB.out)))); have n1_ := Aside0.mk (Kd.R_lower ho1 (below_size (by repeat (first | (with_reducible first | exact HB.out | apply below_alloc | apply pw_below_drewN | apply below_drew1) | exact HB.out)))); have n2_ := Aside0.mk (below_step (by repeat (first | (with_reducible first | exact HB.out | apply below_alloc | apply pw_below_drewN | apply below_drew1) | exact HB.out)) hb); clear HB; have HO180 := n0_; have HO182 := n1_; have HB := n2_; clear n0_ n1_ n2_; (try clear hb); (try clear hb2); (try clear hk); (try clear hi); (try clear ho0); (try clear ho1)) | ((with_reducible refine gate_callee (f := 65) rfl ?_); refine goesL_ (some 57) rfl rfl Try.func65 (by kernel_rfl) rfl #[.slice A1 l1.length c1] rfl (by (try simp only [List.map_toArray, List.map_cons, List.map_nil]); first | done | rfl | (simp only [List.length_drop, List.length_take]; rfl)) ?_; (with_reducible refine (spec_l11Play.calls k2 _ _ l1 t183 t184 _ ?side1 ?side2 A28.out).mono ?_); (case side1 => repeat (first | exact (Kd.C_below HR1.out HB.out) | (with_reducible refine Kd.C_alloc ?_ _) | (with_reducible refine Kd.C_drewN ?_ _) | (with_reducible refine Kd.C_drew ?_))); (case side2 => exact HC1.out); rintro e w30 ⟨v185, v187, rfl, ho0, ho1, hb⟩; refine ⟨_, rfl, ?_⟩; have n0_ := Aside0.mk (Kd.R_elder' (by (with_reducible repeat (first | apply Kd.R_alloc | apply Kd.R_drewN | apply Kd.R_drew)); exact HO180.out) (Kd.R_base ho0) hb); have n1_ := Aside0.mk (Kd.R_elder' (by (with_reducible repeat (first | apply Kd.R_alloc | apply Kd.R_drewN | apply Kd.R_drew)); exact HO182.out) (Kd.R_base ho1) hb); have n2_ := Aside0.mk (Kd.R_lower (Kd.R_new' ho0 (Kd.R_lt (by (with_reducible repeat (first | apply Kd.R_alloc | apply Kd.R_drewN | apply Kd.R_drew)); exact HO180.out))) (below_size (by repeat (first | (with_reducible first | exact HB.out | apply below_alloc | apply pw_below_drewN | apply below_drew1) | exact HB.out)))); have n3_ := Aside0.mk (Kd.R_lower (Kd.R_new' ho1 (Kd.R_lt (by (with_reducible repeat (first | apply Kd.R_alloc | apply Kd.R_drewN | apply Kd.R_drew)); exact HO182.out))) (below_size (by repeat (first | (with_reducible first | exact HB.out | apply below_alloc | apply pw_below_drewN | apply below_drew1) | exact HB.out)))); have n4_ := Aside0.mk (below_step (by repeat (first | (with_reducible first | exact HB.out | apply below_alloc | apply pw_below_drewN | apply below_drew1) | exact HB.out)) hb); clear HO180; clear HO182; clear HB; have HO180 := n0_; have HO182 := n1_; have HO186 := n2_; have HO188 := n3_; have HB := n4_; clear n0_ n1_ n2_ n3_ n4_; (try clear hb); (try clear hb2); (try clear hk); (try clear hi); (try clear ho0); (try clear ho1)))
              go_loopg [62] k2 (fun kq v62 w' => ∃ (x62_3 : Int), v62 = .int .i64 x62_3 ∧ Aside0 (spec_TellsSame.l1 kq l1 t177 t178 t183 t184 l0 (l0.length : Int) x62_3 = some (r1, r2)) ∧ Aside0 (kq ≤ k2) ∧ Aside0 (Kd.R (Kd.int .i64) 3 w' w.heap.size (fun k_ => some k_ ≠ (v185 : Value).ownBlock) v179 t177) ∧ Aside0 (Kd.R k36 36 w' w.heap.size (fun k_ => some k_ ≠ (v187 : Value).ownBlock) v181 t178) ∧ Aside0 (Kd.R (Kd.int .i64) 3 w' w.heap.size (fun k_ => some k_ ≠ (v179 : Value).ownBlock) v185 t183) ∧ Aside0 (Kd.R k36 36 w' w.heap.size (fun k_ => some k_ ≠ (v181 : Value).ownBlock) v187 t184) ∧ Aside0 (Below w.heap.size w w'))
              case atStart => exact ⟨(0), (by first | rfl | (simp; done) | (simp [*]; done)), H', ⟨Nat.le_refl _⟩, ⟨by (with_reducible repeat (first | apply Kd.R_alloc | apply Kd.R_drewN | apply Kd.R_drew)); exact Kd.R_mono HO180.out (fun _ hk => hk.2)⟩, ⟨by (with_reducible repeat (first | apply Kd.R_alloc | apply Kd.R_drewN | apply Kd.R_drew)); exact Kd.R_mono HO182.out (fun _ hk => hk.2)⟩, ⟨by (with_reducible repeat (first | apply Kd.R_alloc | apply Kd.R_drewN | apply Kd.R_drew)); exact Kd.R_mono HO186.out (fun _ hk => hk.2)⟩, ⟨by (with_reducible repeat (first | apply Kd.R_alloc | apply Kd.R_drewN | apply Kd.R_drew)); exact Kd.R_mono HO188.out (fun _ hk => hk.2)⟩, ⟨by repeat (first | (with_reducible first | exact HB.out | apply below_alloc | apply pw_below_drewN | apply below_drew1) | exact HB.out)⟩⟩
              case round =>
                clear H'
                try clear c1
                try clear p1
                try clear q1
                try clear hx1
                try clear c2
                try clear p2
                try clear c3
                try clear c5
                try clear c6
                try clear p6
                try clear c7
                try clear c13
                try clear c14
                try clear c14b0
                try clear c15
                try clear c15b0
                try clear c16
                try clear c16b0
                try clear p17
                try clear q17
                try clear hx17
                try clear c18
                try clear c18b0
                try clear c20
                try clear c20b0
                try clear c22
                try clear c22b0
                try clear hx173_0
                try clear hx173_1
                try clear hx173_2
                try clear hx173_3
                try clear hx173_4
                try clear hx175_0
                try clear hx175_1
                try clear hx175_2
                try clear hx175_3
                try clear hx175_4
                try clear p173
                try clear p175
                try clear p2
                try clear q173
                try clear q175
                obtain ⟨x62_3, rfl, HA, HK3, HO_7, HO_8, HO_9, HO_10, HB⟩ := hrel
                cases gk with
                | zero => exact absurd HA.out (by simp [spec_TellsSame.l1])
                | succ k3 =>
                  have H := HA.out
                  clear HA
                  simp only [spec_TellsSame.l1] at H
                  by_cases c31 : x62_3 < (l0.length : Int)
                  · rw [if_pos c31] at H
                    have c31b0 : decide (x62_3 < (l0.length : Int)) = true := decide_eq_true c31
                    clear c31
                    by_cases c32 : 0 ≤ x62_3
                    · rw [if_pos c32] at H
                      have c32b0 : decide (0 ≤ x62_3) = true := decide_eq_true c32
                      clear c32
                      by_cases c33 : x62_3 < (l0.length : Int)
                      · rw [if_pos c33] at H
                        have c33b0 : decide (x62_3 < (l0.length : Int)) = true := decide_eq_true c33
                        clear c33
                        by_cases c34 : x62_3 < (t178.length : Int)
                        · rw [if_pos c34] at H
                          have c34b0 : decide (x62_3 < (t178.length : Int)) = true := decide_eq_true c34
                          clear c34
                          replace H := Option.bind_eq_some_iff.mp H
                          obtain ⟨t192, A350, H⟩ := H
                          replace H : (if 0 ≤ t192 then (if t192 < (t184.length : Int) then (if (!(((rd_T36 t178 x62_3).f0) == ((rd_T36 t184 t192).f0)) || (!(((rd_T36 t178 x62_3).f1) == ((rd_T36 t184 t192).f1)))) = true then (some (false, true)) else (spec_TellsSame.l1 k3 l1 t177 t178 t183 t184 l0 (l0.length : Int) (wrap64 (x62_3 + 1)))) else (none)) else (none)) = some (r1, r2) := H
                          have A35 := Aside0.mk A350
                          clear A350
                          by_cases c36 : 0 ≤ t192
                          · rw [if_pos c36] at H
                            have c36b0 : decide (0 ≤ t192) = true := decide_eq_true c36
                            clear c36
                            by_cases c37 : t192 < (t184.length : Int)
                            · rw [if_pos c37] at H
                              have c37b0 : decide (t192 < (t184.length : Int)) = true := decide_eq_true c37
                              clear c37
                              by_cases c38 : (!(((rd_T36 t178 x62_3).f0) == ((rd_T36 t184 t192).f0)) || (!(((rd_T36 t178 x62_3).f1) == ((rd_T36 t184 t192).f1)))) = true
                              · rw [if_pos c38] at H
                                have c38b0 : (!(((rd_T36 t178 x62_3).f0) == ((rd_T36 t184 t192).f0)) || (!(((rd_T36 t178 x62_3).f1) == ((rd_T36 t184 t192).f1)))) = true := c38
                                clear c38
                                simp only [Option.some.injEq, Prod.mk.injEq] at H
                                obtain ⟨rfl, rfl⟩ := H
                                have p189 : 0 ≤ (x62_3 : Int) := of_decide_eq_true (by first | (with_reducible assumption) | assumption)
                                have q189 : x62_3 < (l0.length : Int) := of_decide_eq_true (by first | (with_reducible assumption) | assumption)
                                obtain ⟨ad189, e189, hx189_0, hx189_1, hx189_2, hx189_3, hx189_4⟩ := at_T27 HR0.out x62_3 p189 q189
                                cases e189
                                replace hx189_0 := (HB.out.cell (World.block_lt_of_cell? w _ hx189_0)).trans hx189_0
                                replace hx189_1 := (HB.out.cell (World.block_lt_of_cell? w _ hx189_1)).trans hx189_1
                                replace hx189_2 := (HB.out.cell (World.block_lt_of_cell? w _ hx189_2)).trans hx189_2
                                replace hx189_3 := (HB.out.cell (World.block_lt_of_cell? w _ hx189_3)).trans hx189_3
                                replace hx189_4 := (HB.out.cell (World.block_lt_of_cell? w _ hx189_4)).trans hx189_4
                                replace p189 := eq_true p189
                                replace q189 := eq_true q189
                                try go_wp2_with (first | ((with_reducible refine gate_dst (N := 12) rfl ?_); (try (refine gate_guard (by rfl) ?_; dsimp only)); refine box_event ?hg (N := 12) ?hd (cs := #[.int .i64 0, .int .i64 0, .int .i64 0, .int .i64 0, .int .i64 0]) (t := 27) ?hr ?_; (case hd => rfl); (case hg => rfl); (case hr => first | (go_simp; done) | (go_simp; rfl)); intro gb190 hg w39 hbox hb; have n0_ := Aside0.mk (Kd.R_below (by (with_reducible repeat (first | apply Kd.R_alloc | apply Kd.R_drewN | apply Kd.R_drew)); exact HO_7.out) hb); have n1_ := Aside0.mk (Kd.R_below (by (with_reducible repeat (first | apply Kd.R_alloc | apply Kd.R_drewN | apply Kd.R_drew)); exact HO_8.out) hb); have n2_ := Aside0.mk (Kd.R_below (by (with_reducible repeat (first | apply Kd.R_alloc | apply Kd.R_drewN | apply Kd.R_drew)); exact HO_9.out) hb); have n3_ := Aside0.mk (Kd.R_below (by (with_reducible repeat (first | apply Kd.R_alloc | apply Kd.R_drewN | apply Kd.R_drew)); exact HO_10.out) hb); have n4_ := Aside0.mk (below_step (by repeat (first | (with_reducible first | exact HB.out | apply below_alloc | apply pw_below_drewN | apply below_drew1) | exact HB.out)) hb); have n5_ := Aside0.mk (hbox); have n6_ := Aside0.mk ((by rw [hg]; exact (below_size (by repeat (first | (with_reducible first | exact HB.out | apply below_alloc | apply pw_below_drewN | apply below_drew1) | exact HB.out))) : w.heap.size ≤ gb190)); have n7_ := Aside0.mk ((by rw [hg]; exact (below_size (by repeat (first | (with_reducible first | exact HB.out | apply below_alloc | apply pw_below_drewN | apply below_drew1) | exact HB.out))) : w.heap.size ≤ gb190)); clear HO_7; clear HO_8; clear HO_9; clear HO_10; clear HB; have HO_7 := n0_; have HO_8 := n1_; have HO_9 := n2_; have HO_10 := n3_; have HB := n4_; have BK190 := n5_; have GW190 := n6_; have GE190 := n7_; clear n0_ n1_ n2_ n3_ n4_ n5_ n6_ n7_; clear hb hbox hg; have hcz40_0 : w39.cell? ⟨gb190, 0, none⟩ = some (.int .i64 0) := (blk_cell BK190.out 0).trans rfl; have hcz40_1 : w39.cell? ⟨gb190, 1, none⟩ = some (.int .i64 0) := (blk_cell BK190.out 1).trans rfl; have hcz40_2 : w39.cell? ⟨gb190, 2, none⟩ = some (.int .i64 0) := (blk_cell BK190.out 2).trans rfl; have hcz40_3 : w39.cell? ⟨gb190, 3, none⟩ = some (.int .i64 0) := (blk_cell BK190.out 3).trans rfl; have hcz40_4 : w39.cell? ⟨gb190, 4, none⟩ = some (.int .i64 0) := (blk_cell BK190.out 4).trans rfl; have hfz40_0 := blk_frozen BK190.out 0; have hfz40_1 := blk_frozen BK190.out 1; have hfz40_2 := blk_frozen BK190.out 2; have hfz40_3 := blk_frozen BK190.out 3; have hfz40_4 := blk_frozen BK190.out 4))
                                have n0_ : Aside0 (Kd.R (Kd.int .i64) 3 (((((w39.setCell ⟨gb190, 0, none⟩ (.int .i64 ((rd_T27 l0 x62_3).f0))).setCell ⟨gb190, 1, none⟩ (.int .i64 ((rd_T27 l0 x62_3).f1))).setCell ⟨gb190, 2, none⟩ (.int .i64 ((rd_T27 l0 x62_3).f2))).setCell ⟨gb190, 3, none⟩ (.int .i64 ((rd_T27 l0 x62_3).f3))).setCell ⟨gb190, 4, none⟩ (.int .i64 ((rd_T27 l0 x62_3).f4))) w.heap.size (fun k_ => some k_ ≠ (v185 : Value).ownBlock) v179 t177) := ⟨by (with_reducible repeat (first | apply Kd.R_alloc | apply Kd.R_drewN | apply Kd.R_drew)); exact Kd.R_mono (Kd.R_far (p := ⟨gb190, 4, none⟩) (Kd.R_far (p := ⟨gb190, 3, none⟩) (Kd.R_far (p := ⟨gb190, 2, none⟩) (Kd.R_far (p := ⟨gb190, 1, none⟩) (Kd.R_far (p := ⟨gb190, 0, none⟩) (Kd.R_types HO_7.out BK190.out (by decide)) (fun _ hk => hk.2) (.int .i64 ((rd_T27 l0 x62_3).f0))) (fun _ hk => hk.2) (.int .i64 ((rd_T27 l0 x62_3).f1))) (fun _ hk => hk.2) (.int .i64 ((rd_T27 l0 x62_3).f2))) (fun _ hk => hk.2) (.int .i64 ((rd_T27 l0 x62_3).f3))) (fun _ hk => hk.2) (.int .i64 ((rd_T27 l0 x62_3).f4))) (fun _ hk => hk.1)⟩
                                have n1_ : Aside0 (Kd.R k36 36 (((((w39.setCell ⟨gb190, 0, none⟩ (.int .i64 ((rd_T27 l0 x62_3).f0))).setCell ⟨gb190, 1, none⟩ (.int .i64 ((rd_T27 l0 x62_3).f1))).setCell ⟨gb190, 2, none⟩ (.int .i64 ((rd_T27 l0 x62_3).f2))).setCell ⟨gb190, 3, none⟩ (.int .i64 ((rd_T27 l0 x62_3).f3))).setCell ⟨gb190, 4, none⟩ (.int .i64 ((rd_T27 l0 x62_3).f4))) w.heap.size (fun k_ => some k_ ≠ (v187 : Value).ownBlock) v181 t178) := ⟨by (with_reducible repeat (first | apply Kd.R_alloc | apply Kd.R_drewN | apply Kd.R_drew)); exact Kd.R_mono (Kd.R_far (p := ⟨gb190, 4, none⟩) (Kd.R_far (p := ⟨gb190, 3, none⟩) (Kd.R_far (p := ⟨gb190, 2, none⟩) (Kd.R_far (p := ⟨gb190, 1, none⟩) (Kd.R_far (p := ⟨gb190, 0, none⟩) (Kd.R_types HO_8.out BK190.out (by decide)) (fun _ hk => hk.2) (.int .i64 ((rd_T27 l0 x62_3).f0))) (fun _ hk => hk.2) (.int .i64 ((rd_T27 l0 x62_3).f1))) (fun _ hk => hk.2) (.int .i64 ((rd_T27 l0 x62_3).f2))) (fun _ hk => hk.2) (.int .i64 ((rd_T27 l0 x62_3).f3))) (fun _ hk => hk.2) (.int .i64 ((rd_T27 l0 x62_3).f4))) (fun _ hk => hk.1)⟩
                                have n2_ : Aside0 (Kd.R (Kd.int .i64) 3 (((((w39.setCell ⟨gb190, 0, none⟩ (.int .i64 ((rd_T27 l0 x62_3).f0))).setCell ⟨gb190, 1, none⟩ (.int .i64 ((rd_T27 l0 x62_3).f1))).setCell ⟨gb190, 2, none⟩ (.int .i64 ((rd_T27 l0 x62_3).f2))).setCell ⟨gb190, 3, none⟩ (.int .i64 ((rd_T27 l0 x62_3).f3))).setCell ⟨gb190, 4, none⟩ (.int .i64 ((rd_T27 l0 x62_3).f4))) w.heap.size (fun k_ => some k_ ≠ (v179 : Value).ownBlock) v185 t183) := ⟨by (with_reducible repeat (first | apply Kd.R_alloc | apply Kd.R_drewN | apply Kd.R_drew)); exact Kd.R_mono (Kd.R_far (p := ⟨gb190, 4, none⟩) (Kd.R_far (p := ⟨gb190, 3, none⟩) (Kd.R_far (p := ⟨gb190, 2, none⟩) (Kd.R_far (p := ⟨gb190, 1, none⟩) (Kd.R_far (p := ⟨gb190, 0, none⟩) (Kd.R_types HO_9.out BK190.out (by decide)) (fun _ hk => hk.2) (.int .i64 ((rd_T27 l0 x62_3).f0))) (fun _ hk => hk.2) (.int .i64 ((rd_T27 l0 x62_3).f1))) (fun _ hk => hk.2) (.int .i64 ((rd_T27 l0 x62_3).f2))) (fun _ hk => hk.2) (.int .i64 ((rd_T27 l0 x62_3).f3))) (fun _ hk => hk.2) (.int .i64 ((rd_T27 l0 x62_3).f4))) (fun _ hk => hk.1)⟩
                                have n3_ : Aside0 (Kd.R k36 36 (((((w39.setCell ⟨gb190, 0, none⟩ (.int .i64 ((rd_T27 l0 x62_3).f0))).setCell ⟨gb190, 1, none⟩ (.int .i64 ((rd_T27 l0 x62_3).f1))).setCell ⟨gb190, 2, none⟩ (.int .i64 ((rd_T27 l0 x62_3).f2))).setCell ⟨gb190, 3, none⟩ (.int .i64 ((rd_T27 l0 x62_3).f3))).setCell ⟨gb190, 4, none⟩ (.int .i64 ((rd_T27 l0 x62_3).f4))) w.heap.size (fun k_ => some k_ ≠ (v181 : Value).ownBlock) v187 t184) := ⟨by (with_reducible repeat (first | apply Kd.R_alloc | apply Kd.R_drewN | apply Kd.R_drew)); exact Kd.R_mono (Kd.R_far (p := ⟨gb190, 4, none⟩) (Kd.R_far (p := ⟨gb190, 3, none⟩) (Kd.R_far (p := ⟨gb190, 2, none⟩) (Kd.R_far (p := ⟨gb190, 1, none⟩) (Kd.R_far (p := ⟨gb190, 0, none⟩) (Kd.R_types HO_10.out BK190.out (by decide)) (fun _ hk => hk.2) (.int .i64 ((rd_T27 l0 x62_3).f0))) (fun _ hk => hk.2) (.int .i64 ((rd_T27 l0 x62_3).f1))) (fun _ hk => hk.2) (.int .i64 ((rd_T27 l0 x62_3).f2))) (fun _ hk => hk.2) (.int .i64 ((rd_T27 l0 x62_3).f3))) (fun _ hk => hk.2) (.int .i64 ((rd_T27 l0 x62_3).f4))) (fun _ hk => hk.1)⟩
                                have n4_ : Aside0 ((((((w39.setCell ⟨gb190, 0, none⟩ (.int .i64 ((rd_T27 l0 x62_3).f0))).setCell ⟨gb190, 1, none⟩ (.int .i64 ((rd_T27 l0 x62_3).f1))).setCell ⟨gb190, 2, none⟩ (.int .i64 ((rd_T27 l0 x62_3).f2))).setCell ⟨gb190, 3, none⟩ (.int .i64 ((rd_T27 l0 x62_3).f3))).setCell ⟨gb190, 4, none⟩ (.int .i64 ((rd_T27 l0 x62_3).f4))).heap[gb190]? = some (.cells #[.int .i64 ((rd_T27 l0 x62_3).f0), .int .i64 ((rd_T27 l0 x62_3).f1), .int .i64 ((rd_T27 l0 x62_3).f2), .int .i64 ((rd_T27 l0 x62_3).f3), .int .i64 ((rd_T27 l0 x62_3).f4)] 27 (0, 0))) := ⟨by (with_reducible repeat (first | refine blk_drewN ?_ _ | refine blk_drew ?_ | refine blk_alloc ?_ _)); refine blk_put (cs := #[.int .i64 ((rd_T27 l0 x62_3).f0), .int .i64 ((rd_T27 l0 x62_3).f1), .int .i64 ((rd_T27 l0 x62_3).f2), .int .i64 ((rd_T27 l0 x62_3).f3), .int .i64 0]) ?_ 4 _ rfl; (with_reducible repeat (first | refine blk_drewN ?_ _ | refine blk_drew ?_ | refine blk_alloc ?_ _)); refine blk_put (cs := #[.int .i64 ((rd_T27 l0 x62_3).f0), .int .i64 ((rd_T27 l0 x62_3).f1), .int .i64 ((rd_T27 l0 x62_3).f2), .int .i64 0, .int .i64 0]) ?_ 3 _ rfl; (with_reducible repeat (first | refine blk_drewN ?_ _ | refine blk_drew ?_ | refine blk_alloc ?_ _)); refine blk_put (cs := #[.int .i64 ((rd_T27 l0 x62_3).f0), .int .i64 ((rd_T27 l0 x62_3).f1), .int .i64 0, .int .i64 0, .int .i64 0]) ?_ 2 _ rfl; (with_reducible repeat (first | refine blk_drewN ?_ _ | refine blk_drew ?_ | refine blk_alloc ?_ _)); refine blk_put (cs := #[.int .i64 ((rd_T27 l0 x62_3).f0), .int .i64 0, .int .i64 0, .int .i64 0, .int .i64 0]) ?_ 1 _ rfl; (with_reducible repeat (first | refine blk_drewN ?_ _ | refine blk_drew ?_ | refine blk_alloc ?_ _)); refine blk_put (cs := #[.int .i64 0, .int .i64 0, .int .i64 0, .int .i64 0, .int .i64 0]) ?_ 0 _ rfl; (with_reducible repeat (first | refine blk_drewN ?_ _ | refine blk_drew ?_ | refine blk_alloc ?_ _)); exact BK190.out⟩
                                have n5_ : Aside0 (Below w.heap.size w (((((w39.setCell ⟨gb190, 0, none⟩ (.int .i64 ((rd_T27 l0 x62_3).f0))).setCell ⟨gb190, 1, none⟩ (.int .i64 ((rd_T27 l0 x62_3).f1))).setCell ⟨gb190, 2, none⟩ (.int .i64 ((rd_T27 l0 x62_3).f2))).setCell ⟨gb190, 3, none⟩ (.int .i64 ((rd_T27 l0 x62_3).f3))).setCell ⟨gb190, 4, none⟩ (.int .i64 ((rd_T27 l0 x62_3).f4)))) := ⟨by repeat (first | (with_reducible first | exact HB.out | apply below_alloc | apply pw_below_drewN | apply below_drew1 | refine below_set ?_ GE190.out) | exact HB.out)⟩
                                (try clear HO_7)
                                (try clear HO_8)
                                (try clear HO_9)
                                (try clear HO_10)
                                (try clear BK190)
                                (try clear HB)
                                generalize (((((w39.setCell ⟨gb190, 0, none⟩ (.int .i64 ((rd_T27 l0 x62_3).f0))).setCell ⟨gb190, 1, none⟩ (.int .i64 ((rd_T27 l0 x62_3).f1))).setCell ⟨gb190, 2, none⟩ (.int .i64 ((rd_T27 l0 x62_3).f2))).setCell ⟨gb190, 3, none⟩ (.int .i64 ((rd_T27 l0 x62_3).f3))).setCell ⟨gb190, 4, none⟩ (.int .i64 ((rd_T27 l0 x62_3).f4))) = w41 at n0_ n1_ n2_ n3_ n4_ n5_ ⊢
                                have HO_7 := n0_
                                have HO_8 := n1_
                                have HO_9 := n2_
                                have HO_10 := n3_
                                have BK190 := n4_
                                have HB := n5_
                                clear n0_ n1_ n2_ n3_ n4_ n5_
                                have n0_ := Aside0.mk (Kd.R_drew HO_7.out)
                                have n1_ := Aside0.mk (Kd.R_drew HO_8.out)
                                have n2_ := Aside0.mk (Kd.R_drew HO_9.out)
                                have n3_ := Aside0.mk (Kd.R_drew HO_10.out)
                                have n4_ := Aside0.mk (blk_drew BK190.out)
                                have n5_ := Aside0.mk (below_drew1 HB.out)
                                clear HO_7
                                clear HO_8
                                clear HO_9
                                clear HO_10
                                clear BK190
                                clear HB
                                have HO_7 := n0_
                                have HO_8 := n1_
                                have HO_9 := n2_
                                have HO_10 := n3_
                                have BK190 := n4_
                                have HB := n5_
                                clear n0_ n1_ n2_ n3_ n4_ n5_
                                obtain ⟨Ao43, co43, eo43⟩ := Kd.R_slice HO_8.out
                                (first | subst eo43 | (injection eo43 with f1_ f2_ f3_; have f4_ := f1_.symm; have f5_ := f3_.symm; clear f1_ f2_ f3_; subst f4_; subst f5_))
                                have p191 : 0 ≤ (x62_3 : Int) := of_decide_eq_true (by first | (with_reducible assumption) | assumption)
                                have q191 : x62_3 < (t178.length : Int) := of_decide_eq_true (by first | (with_reducible assumption) | assumption)
                                obtain ⟨ad191, e191, hx191_0, hx191_1⟩ := at_T36 (Kd.R_reads' HO_8.out).2.2 x62_3 p191 q191
                                cases e191
                                replace p191 := eq_true p191
                                replace q191 := eq_true q191
                                obtain ⟨Ao45, co45, eo45⟩ := Kd.R_slice HO_10.out
                                (first | subst eo45 | (injection eo45 with f1_ f2_ f3_; have f4_ := f1_.symm; have f5_ := f3_.symm; clear f1_ f2_ f3_; subst f4_; subst f5_))
                                have p193 : 0 ≤ (t192 : Int) := of_decide_eq_true (by first | (with_reducible assumption) | assumption)
                                have q193 : t192 < (t184.length : Int) := of_decide_eq_true (by first | (with_reducible assumption) | assumption)
                                obtain ⟨ad193, e193, hx193_0, hx193_1⟩ := at_T36 (Kd.R_reads' HO_10.out).2.2 t192 p193 q193
                                cases e193
                                replace p193 := eq_true p193
                                replace q193 := eq_true q193
                                refine start_ (n := 11) (S := fun w' => w'.cell? ⟨gb190, 0, none⟩ = some (.int .i64 ((rd_T27 l0 x62_3).f0)) ∧ w'.cell? ⟨gb190, 1, none⟩ = some (.int .i64 ((rd_T27 l0 x62_3).f1)) ∧ w'.cell? ⟨gb190, 2, none⟩ = some (.int .i64 ((rd_T27 l0 x62_3).f2)) ∧ w'.cell? ⟨gb190, 3, none⟩ = some (.int .i64 ((rd_T27 l0 x62_3).f3)) ∧ w'.cell? ⟨gb190, 4, none⟩ = some (.int .i64 ((rd_T27 l0 x62_3).f4)) ∧ w'.cell? (ad191.add ((x62_3).toNat * 2)) = some (.int .i64 ((rd_T36 t178 x62_3).f0)) ∧ w'.cell? ⟨(ad191.add ((x62_3).toNat * 2)).block, (ad191.add ((x62_3).toNat * 2)).off + 1, none⟩ = some (.int .i64 ((rd_T36 t178 x62_3).f1)) ∧ w'.cell? (ad193.add ((t192).toNat * 2)) = some (.int .i64 ((rd_T36 t184 t192).f0)) ∧ w'.cell? ⟨(ad193.add ((t192).toNat * 2)).block, (ad193.add ((t192).toNat * 2)).off + 1, none⟩ = some (.int .i64 ((rd_T36 t184 t192).f1))) (ds := []) #[false, false, false, false, false, false, false, false, false, false, false] (by kernel_rfl) rfl rfl ⟨(blk_cell BK190.out 0).trans rfl, (blk_cell BK190.out 1).trans rfl, (blk_cell BK190.out 2).trans rfl, (blk_cell BK190.out 3).trans rfl, (blk_cell BK190.out 4).trans rfl, hx191_0, hx191_1, hx193_0, hx193_1⟩ (fun hHeld => ?_); refine with_tabW spec_TellsSame.tab14 spec_TellsSame.bits14 (fun HT_ HW_ => ?_)
                                generalize w41.drew = w42 at HO_7 HO_8 HO_9 HO_10 BK190 HB hx191_0 hx191_1 hx193_0 hx193_1 hHeld ⊢
                                refine pure_ (i := 0) (N := some 67) (v := ?_) (a' := ?_) #[true, false, false, false, false, false, false, false, false, false, false] rfl rfl (any_of HT_.out (by kernel_rfl)) (fun _ _ _ h => h) (Or.inl ⟨by rfl, ?_⟩) ?_ ?_
                                rotate_left
                                · intro w'
                                  go_simp
                                  with_reducible rfl
                                rotate_left
                                · simp only [Act.put, List.setIfInBounds_toArray, List.set_cons_zero, List.set_cons_succ, i64_w, i32_w]
                                  rfl
                                refine pure_ (i := 1) (N := some 68) (v := ?_) (a' := ?_) #[true, true, false, false, false, false, false, false, false, false, false] rfl rfl (any_of HT_.out (by kernel_rfl)) (fun _ _ _ h => h) (Or.inl ⟨by rfl, ?_⟩) ?_ ?_
                                rotate_left
                                · intro w'
                                  go_simp
                                  with_reducible rfl
                                rotate_left
                                · simp only [Act.put, List.setIfInBounds_toArray, List.set_cons_zero, List.set_cons_succ, i64_w, i32_w]
                                  rfl
                                refine pure_ (i := 2) (N := some 69) (v := ?_) (a' := ?_) #[true, true, true, false, false, false, false, false, false, false, false] rfl rfl (any_of HT_.out (by kernel_rfl)) (fun _ _ _ h => h) (Or.inl ⟨by rfl, ?_⟩) ?_ ?_
                                rotate_left
                                · intro w'
                                  go_simp
                                  with_reducible rfl
                                rotate_left
                                · simp only [Act.put, List.setIfInBounds_toArray, List.set_cons_zero, List.set_cons_succ, i64_w, i32_w]
                                  rfl
                                refine pure_ (i := 4) (N := some 71) (v := ?_) (a' := ?_) #[true, true, true, false, true, false, false, false, false, false, false] rfl rfl (any_of HT_.out (by kernel_rfl)) (fun _ _ _ h => h) (Or.inl ⟨by rfl, ?_⟩) ?_ ?_
                                rotate_left
                                · intro w'
                                  go_simp
                                  with_reducible rfl
                                rotate_left
                                · simp only [Act.put, List.setIfInBounds_toArray, List.set_cons_zero, List.set_cons_succ, i64_w, i32_w]
                                  rfl
                                refine pure_ (i := 5) (N := some 72) (v := ?_) (a' := ?_) #[true, true, true, false, true, true, false, false, false, false, false] rfl rfl (any_of HT_.out (by kernel_rfl)) (fun _ _ _ h => h) (Or.inl ⟨by rfl, ?_⟩) ?_ ?_
                                rotate_left
                                · intro w'
                                  go_simp
                                  with_reducible rfl
                                rotate_left
                                · simp only [Act.put, List.setIfInBounds_toArray, List.set_cons_zero, List.set_cons_succ, i64_w, i32_w]
                                  rfl
                                refine take_ (i := 3) (N := some 70) (v := ?_) (a' := ?_) #[true, true, true, true, true, true, false, false, false, false, false] rfl rfl (take_ofW HT_.out HW_.out (by kernel_rfl)) (fun _ _ _ h => h) (Or.inl ⟨by rfl, ?_⟩) hHeld ?_ ?_
                                rotate_left
                                · rintro w' ⟨s0, s1, s2, s3, s4, s5, s6, s7, s8⟩
                                  go_simp
                                  with_reducible rfl
                                rotate_left
                                · simp only [Act.put, List.setIfInBounds_toArray, List.set_cons_zero, List.set_cons_succ, i64_w, i32_w]
                                  rfl
                                refine take_ (i := 6) (N := some 73) (v := ?_) (a' := ?_) #[true, true, true, true, true, true, true, false, false, false, false] rfl rfl (take_ofW HT_.out HW_.out (by kernel_rfl)) (fun _ _ _ h => h) (Or.inl ⟨by rfl, ?_⟩) hHeld ?_ ?_
                                rotate_left
                                · rintro w' ⟨s0, s1, s2, s3, s4, s5, s6, s7, s8⟩
                                  go_simp
                                  with_reducible rfl
                                rotate_left
                                · simp only [Act.put, List.setIfInBounds_toArray, List.set_cons_zero, List.set_cons_succ, i64_w, i32_w]
                                  rfl
                                refine one_ (i := 7) (N := some 74) #[true, true, true, true, true, true, true, true, false, false, false] rfl rfl (one_of HT_.out (by kernel_rfl)) (by decide) (fun K hK => ?_)
                                refine goes_ Try.func69 (by kernel_rfl) rfl #[.slice A1 l1.length c1, .agg #[.int .i64 ((rd_T27 l0 x62_3).f0), .int .i64 ((rd_T27 l0 x62_3).f1), .int .i64 ((rd_T27 l0 x62_3).f2), .int .i64 ((rd_T27 l0 x62_3).f3), .int .i64 ((rd_T27 l0 x62_3).f4)]] (by rfl) rfl rfl (by (try simp only [List.map_toArray, List.map_cons, List.map_nil]); first | done | rfl | (simp only [List.length_drop, List.length_take]; rfl)) ?_
                                with_reducible refine (spec_l11Once.calls k3 _ _ l1 ((rd_T27 l0 x62_3).f0) ((rd_T27 l0 x62_3).f1) ((rd_T27 l0 x62_3).f2) ((rd_T27 l0 x62_3).f3) ((rd_T27 l0 x62_3).f4) t192 _ ?side1 ?side2 A35.out).mono ?_
                                (case side1 => repeat (first | exact (Kd.C_below HR1.out HB.out) | (with_reducible refine Kd.C_alloc ?_ _) | (with_reducible refine Kd.C_drewN ?_ _) | (with_reducible refine Kd.C_drew ?_)))
                                (case side2 => exact HC1.out)
                                rintro e w44 ⟨rfl, hb⟩
                                have HS5_ := (hb.cell (World.block_lt_of_cell? _ _ (hHeld.2.2.2.2.2.1))).trans (hHeld.2.2.2.2.2.1)
                                have HS6_ := (hb.cell (World.block_lt_of_cell? _ _ (hHeld.2.2.2.2.2.2.1))).trans (hHeld.2.2.2.2.2.2.1)
                                have HS7_ := (hb.cell (World.block_lt_of_cell? _ _ (hHeld.2.2.2.2.2.2.2.1))).trans (hHeld.2.2.2.2.2.2.2.1)
                                have HS8_ := (hb.cell (World.block_lt_of_cell? _ _ (hHeld.2.2.2.2.2.2.2.2))).trans (hHeld.2.2.2.2.2.2.2.2)
                                refine ⟨_, rfl, ?_⟩
                                have n0_ := Aside0.mk (Kd.R_below (by (with_reducible repeat (first | apply Kd.R_alloc | apply Kd.R_drewN | apply Kd.R_drew)); exact HO_7.out) hb)
                                have n1_ := Aside0.mk (Kd.R_below (by (with_reducible repeat (first | apply Kd.R_alloc | apply Kd.R_drewN | apply Kd.R_drew)); exact HO_8.out) hb)
                                have n2_ := Aside0.mk (Kd.R_below (by (with_reducible repeat (first | apply Kd.R_alloc | apply Kd.R_drewN | apply Kd.R_drew)); exact HO_9.out) hb)
                                have n3_ := Aside0.mk (Kd.R_below (by (with_reducible repeat (first | apply Kd.R_alloc | apply Kd.R_drewN | apply Kd.R_drew)); exact HO_10.out) hb)
                                have n4_ := Aside0.mk (blk_below (g := gb190) (o := .cells #[.int .i64 ((rd_T27 l0 x62_3).f0), .int .i64 ((rd_T27 l0 x62_3).f1), .int .i64 ((rd_T27 l0 x62_3).f2), .int .i64 ((rd_T27 l0 x62_3).f3), .int .i64 ((rd_T27 l0 x62_3).f4)] 27 (0, 0)) (by (with_reducible repeat (first | refine blk_drewN ?_ _ | refine blk_drew ?_ | refine blk_alloc ?_ _)); exact BK190.out) hb)
                                have n5_ := Aside0.mk (below_step (by repeat (first | (with_reducible first | exact HB.out | apply below_alloc | apply pw_below_drewN | apply below_drew1 | refine below_set ?_ GE190.out) | exact HB.out)) hb)
                                clear HO_7
                                clear HO_8
                                clear HO_9
                                clear HO_10
                                clear BK190
                                clear HB
                                have HO_7 := n0_
                                have HO_8 := n1_
                                have HO_9 := n2_
                                have HO_10 := n3_
                                have BK190 := n4_
                                have HB := n5_
                                clear n0_ n1_ n2_ n3_ n4_ n5_
                                (try clear hb)
                                (try clear hb2)
                                (try clear hk)
                                (try clear hi)
                                refine hK.out _ _ ⟨(blk_cell BK190.out 0).trans rfl, (blk_cell BK190.out 1).trans rfl, (blk_cell BK190.out 2).trans rfl, (blk_cell BK190.out 3).trans rfl, (blk_cell BK190.out 4).trans rfl, HS5_, HS6_, HS7_, HS8_⟩ (fun hHeld => ?_)
                                clear hK K
                                refine norm_ (a' := ?_) ?_ ?_
                                rotate_left
                                · show Act.put _ (some 74) _ = _
                                  simp only [Act.put, List.setIfInBounds_toArray, List.set_cons_zero, List.set_cons_succ, i64_w, i32_w]
                                  rfl
                                refine pure_ (i := 8) (N := some 75) (v := ?_) (a' := ?_) #[true, true, true, true, true, true, true, true, true, false, false] rfl rfl (any_of HT_.out (by kernel_rfl)) (fun _ _ _ h => h) (Or.inl ⟨by rfl, ?_⟩) ?_ ?_
                                rotate_left
                                · intro w'
                                  go_simp
                                  with_reducible rfl
                                rotate_left
                                · simp only [Act.put, List.setIfInBounds_toArray, List.set_cons_zero, List.set_cons_succ, i64_w, i32_w]
                                  rfl
                                refine take_ (i := 9) (N := some 76) (v := ?_) (a' := ?_) #[true, true, true, true, true, true, true, true, true, true, false] rfl rfl (take_ofW HT_.out HW_.out (by kernel_rfl)) (fun _ _ _ h => h) (Or.inl ⟨by rfl, ?_⟩) hHeld ?_ ?_
                                rotate_left
                                · rintro w' ⟨s0, s1, s2, s3, s4, s5, s6, s7, s8⟩
                                  go_simp
                                  with_reducible rfl
                                rotate_left
                                · simp only [Act.put, List.setIfInBounds_toArray, List.set_cons_zero, List.set_cons_succ, i64_w, i32_w]
                                  rfl
                                refine pure_ (i := 10) (N := some 77) (v := ?_) (a' := ?_) #[true, true, true, true, true, true, true, true, true, true, true] rfl rfl (any_of HT_.out (by kernel_rfl)) (fun _ _ _ h => h) (Or.inl ⟨by rfl, ?_⟩) ?_ ?_
                                rotate_left
                                · intro w'
                                  go_simp
                                  with_reducible rfl
                                rotate_left
                                · simp only [Act.put, List.setIfInBounds_toArray, List.set_cons_zero, List.set_cons_succ, i64_w, i32_w]
                                  rfl
                                refine done_ (done_of HT_.out (by kernel_rfl)) ?_
                                try go_wp2
                                go_ret2
                                exact ⟨by first | rfl | (simp [errW_none, errW_some] <;> rfl) | (simp [*, errW_none, errW_some] <;> rfl), by repeat (first | (with_reducible first | exact HB.out | apply below_alloc | apply pw_below_drewN | apply below_drew1 | refine below_set ?_ GE190.out) | exact HB.out)⟩
                              · rw [if_neg c38] at H
                                have c38b0 : (!(((rd_T36 t178 x62_3).f0) == ((rd_T36 t184 t192).f0)) || (!(((rd_T36 t178 x62_3).f1) == ((rd_T36 t184 t192).f1)))) = false := by simpa using c38
                                clear c38
                                have H' := Aside0.mk H
                                clear H
                                have p189 : 0 ≤ (x62_3 : Int) := of_decide_eq_true (by first | (with_reducible assumption) | assumption)
                                have q189 : x62_3 < (l0.length : Int) := of_decide_eq_true (by first | (with_reducible assumption) | assumption)
                                obtain ⟨ad189, e189, hx189_0, hx189_1, hx189_2, hx189_3, hx189_4⟩ := at_T27 HR0.out x62_3 p189 q189
                                cases e189
                                replace hx189_0 := (HB.out.cell (World.block_lt_of_cell? w _ hx189_0)).trans hx189_0
                                replace hx189_1 := (HB.out.cell (World.block_lt_of_cell? w _ hx189_1)).trans hx189_1
                                replace hx189_2 := (HB.out.cell (World.block_lt_of_cell? w _ hx189_2)).trans hx189_2
                                replace hx189_3 := (HB.out.cell (World.block_lt_of_cell? w _ hx189_3)).trans hx189_3
                                replace hx189_4 := (HB.out.cell (World.block_lt_of_cell? w _ hx189_4)).trans hx189_4
                                replace p189 := eq_true p189
                                replace q189 := eq_true q189
                                try go_wp2_with (first | ((with_reducible refine gate_dst (N := 12) rfl ?_); (try (refine gate_guard (by rfl) ?_; dsimp only)); refine box_event ?hg (N := 12) ?hd (cs := #[.int .i64 0, .int .i64 0, .int .i64 0, .int .i64 0, .int .i64 0]) (t := 27) ?hr ?_; (case hd => rfl); (case hg => rfl); (case hr => first | (go_simp; done) | (go_simp; rfl)); intro gb190 hg w46 hbox hb; have n0_ := Aside0.mk (Kd.R_below (by (with_reducible repeat (first | apply Kd.R_alloc | apply Kd.R_drewN | apply Kd.R_drew)); exact HO_7.out) hb); have n1_ := Aside0.mk (Kd.R_below (by (with_reducible repeat (first | apply Kd.R_alloc | apply Kd.R_drewN | apply Kd.R_drew)); exact HO_8.out) hb); have n2_ := Aside0.mk (Kd.R_below (by (with_reducible repeat (first | apply Kd.R_alloc | apply Kd.R_drewN | apply Kd.R_drew)); exact HO_9.out) hb); have n3_ := Aside0.mk (Kd.R_below (by (with_reducible repeat (first | apply Kd.R_alloc | apply Kd.R_drewN | apply Kd.R_drew)); exact HO_10.out) hb); have n4_ := Aside0.mk (below_step (by repeat (first | (with_reducible first | exact HB.out | apply below_alloc | apply pw_below_drewN | apply below_drew1) | exact HB.out)) hb); have n5_ := Aside0.mk (hbox); have n6_ := Aside0.mk ((by rw [hg]; exact (below_size (by repeat (first | (with_reducible first | exact HB.out | apply below_alloc | apply pw_below_drewN | apply below_drew1) | exact HB.out))) : w.heap.size ≤ gb190)); have n7_ := Aside0.mk ((by rw [hg]; exact (below_size (by repeat (first | (with_reducible first | exact HB.out | apply below_alloc | apply pw_below_drewN | apply below_drew1) | exact HB.out))) : w.heap.size ≤ gb190)); clear HO_7; clear HO_8; clear HO_9; clear HO_10; clear HB; have HO_7 := n0_; have HO_8 := n1_; have HO_9 := n2_; have HO_10 := n3_; have HB := n4_; have BK190 := n5_; have GW190 := n6_; have GE190 := n7_; clear n0_ n1_ n2_ n3_ n4_ n5_ n6_ n7_; clear hb hbox hg; have hcz47_0 : w46.cell? ⟨gb190, 0, none⟩ = some (.int .i64 0) := (blk_cell BK190.out 0).trans rfl; have hcz47_1 : w46.cell? ⟨gb190, 1, none⟩ = some (.int .i64 0) := (blk_cell BK190.out 1).trans rfl; have hcz47_2 : w46.cell? ⟨gb190, 2, none⟩ = some (.int .i64 0) := (blk_cell BK190.out 2).trans rfl; have hcz47_3 : w46.cell? ⟨gb190, 3, none⟩ = some (.int .i64 0) := (blk_cell BK190.out 3).trans rfl; have hcz47_4 : w46.cell? ⟨gb190, 4, none⟩ = some (.int .i64 0) := (blk_cell BK190.out 4).trans rfl; have hfz47_0 := blk_frozen BK190.out 0; have hfz47_1 := blk_frozen BK190.out 1; have hfz47_2 := blk_frozen BK190.out 2; have hfz47_3 := blk_frozen BK190.out 3; have hfz47_4 := blk_frozen BK190.out 4))
                                have n0_ : Aside0 (Kd.R (Kd.int .i64) 3 (((((w46.setCell ⟨gb190, 0, none⟩ (.int .i64 ((rd_T27 l0 x62_3).f0))).setCell ⟨gb190, 1, none⟩ (.int .i64 ((rd_T27 l0 x62_3).f1))).setCell ⟨gb190, 2, none⟩ (.int .i64 ((rd_T27 l0 x62_3).f2))).setCell ⟨gb190, 3, none⟩ (.int .i64 ((rd_T27 l0 x62_3).f3))).setCell ⟨gb190, 4, none⟩ (.int .i64 ((rd_T27 l0 x62_3).f4))) w.heap.size (fun k_ => some k_ ≠ (v185 : Value).ownBlock) v179 t177) := ⟨by (with_reducible repeat (first | apply Kd.R_alloc | apply Kd.R_drewN | apply Kd.R_drew)); exact Kd.R_mono (Kd.R_far (p := ⟨gb190, 4, none⟩) (Kd.R_far (p := ⟨gb190, 3, none⟩) (Kd.R_far (p := ⟨gb190, 2, none⟩) (Kd.R_far (p := ⟨gb190, 1, none⟩) (Kd.R_far (p := ⟨gb190, 0, none⟩) (Kd.R_types HO_7.out BK190.out (by decide)) (fun _ hk => hk.2) (.int .i64 ((rd_T27 l0 x62_3).f0))) (fun _ hk => hk.2) (.int .i64 ((rd_T27 l0 x62_3).f1))) (fun _ hk => hk.2) (.int .i64 ((rd_T27 l0 x62_3).f2))) (fun _ hk => hk.2) (.int .i64 ((rd_T27 l0 x62_3).f3))) (fun _ hk => hk.2) (.int .i64 ((rd_T27 l0 x62_3).f4))) (fun _ hk => hk.1)⟩
                                have n1_ : Aside0 (Kd.R k36 36 (((((w46.setCell ⟨gb190, 0, none⟩ (.int .i64 ((rd_T27 l0 x62_3).f0))).setCell ⟨gb190, 1, none⟩ (.int .i64 ((rd_T27 l0 x62_3).f1))).setCell ⟨gb190, 2, none⟩ (.int .i64 ((rd_T27 l0 x62_3).f2))).setCell ⟨gb190, 3, none⟩ (.int .i64 ((rd_T27 l0 x62_3).f3))).setCell ⟨gb190, 4, none⟩ (.int .i64 ((rd_T27 l0 x62_3).f4))) w.heap.size (fun k_ => some k_ ≠ (v187 : Value).ownBlock) v181 t178) := ⟨by (with_reducible repeat (first | apply Kd.R_alloc | apply Kd.R_drewN | apply Kd.R_drew)); exact Kd.R_mono (Kd.R_far (p := ⟨gb190, 4, none⟩) (Kd.R_far (p := ⟨gb190, 3, none⟩) (Kd.R_far (p := ⟨gb190, 2, none⟩) (Kd.R_far (p := ⟨gb190, 1, none⟩) (Kd.R_far (p := ⟨gb190, 0, none⟩) (Kd.R_types HO_8.out BK190.out (by decide)) (fun _ hk => hk.2) (.int .i64 ((rd_T27 l0 x62_3).f0))) (fun _ hk => hk.2) (.int .i64 ((rd_T27 l0 x62_3).f1))) (fun _ hk => hk.2) (.int .i64 ((rd_T27 l0 x62_3).f2))) (fun _ hk => hk.2) (.int .i64 ((rd_T27 l0 x62_3).f3))) (fun _ hk => hk.2) (.int .i64 ((rd_T27 l0 x62_3).f4))) (fun _ hk => hk.1)⟩
                                have n2_ : Aside0 (Kd.R (Kd.int .i64) 3 (((((w46.setCell ⟨gb190, 0, none⟩ (.int .i64 ((rd_T27 l0 x62_3).f0))).setCell ⟨gb190, 1, none⟩ (.int .i64 ((rd_T27 l0 x62_3).f1))).setCell ⟨gb190, 2, none⟩ (.int .i64 ((rd_T27 l0 x62_3).f2))).setCell ⟨gb190, 3, none⟩ (.int .i64 ((rd_T27 l0 x62_3).f3))).setCell ⟨gb190, 4, none⟩ (.int .i64 ((rd_T27 l0 x62_3).f4))) w.heap.size (fun k_ => some k_ ≠ (v179 : Value).ownBlock) v185 t183) := ⟨by (with_reducible repeat (first | apply Kd.R_alloc | apply Kd.R_drewN | apply Kd.R_drew)); exact Kd.R_mono (Kd.R_far (p := ⟨gb190, 4, none⟩) (Kd.R_far (p := ⟨gb190, 3, none⟩) (Kd.R_far (p := ⟨gb190, 2, none⟩) (Kd.R_far (p := ⟨gb190, 1, none⟩) (Kd.R_far (p := ⟨gb190, 0, none⟩) (Kd.R_types HO_9.out BK190.out (by decide)) (fun _ hk => hk.2) (.int .i64 ((rd_T27 l0 x62_3).f0))) (fun _ hk => hk.2) (.int .i64 ((rd_T27 l0 x62_3).f1))) (fun _ hk => hk.2) (.int .i64 ((rd_T27 l0 x62_3).f2))) (fun _ hk => hk.2) (.int .i64 ((rd_T27 l0 x62_3).f3))) (fun _ hk => hk.2) (.int .i64 ((rd_T27 l0 x62_3).f4))) (fun _ hk => hk.1)⟩
                                have n3_ : Aside0 (Kd.R k36 36 (((((w46.setCell ⟨gb190, 0, none⟩ (.int .i64 ((rd_T27 l0 x62_3).f0))).setCell ⟨gb190, 1, none⟩ (.int .i64 ((rd_T27 l0 x62_3).f1))).setCell ⟨gb190, 2, none⟩ (.int .i64 ((rd_T27 l0 x62_3).f2))).setCell ⟨gb190, 3, none⟩ (.int .i64 ((rd_T27 l0 x62_3).f3))).setCell ⟨gb190, 4, none⟩ (.int .i64 ((rd_T27 l0 x62_3).f4))) w.heap.size (fun k_ => some k_ ≠ (v181 : Value).ownBlock) v187 t184) := ⟨by (with_reducible repeat (first | apply Kd.R_alloc | apply Kd.R_drewN | apply Kd.R_drew)); exact Kd.R_mono (Kd.R_far (p := ⟨gb190, 4, none⟩) (Kd.R_far (p := ⟨gb190, 3, none⟩) (Kd.R_far (p := ⟨gb190, 2, none⟩) (Kd.R_far (p := ⟨gb190, 1, none⟩) (Kd.R_far (p := ⟨gb190, 0, none⟩) (Kd.R_types HO_10.out BK190.out (by decide)) (fun _ hk => hk.2) (.int .i64 ((rd_T27 l0 x62_3).f0))) (fun _ hk => hk.2) (.int .i64 ((rd_T27 l0 x62_3).f1))) (fun _ hk => hk.2) (.int .i64 ((rd_T27 l0 x62_3).f2))) (fun _ hk => hk.2) (.int .i64 ((rd_T27 l0 x62_3).f3))) (fun _ hk => hk.2) (.int .i64 ((rd_T27 l0 x62_3).f4))) (fun _ hk => hk.1)⟩
                                have n4_ : Aside0 ((((((w46.setCell ⟨gb190, 0, none⟩ (.int .i64 ((rd_T27 l0 x62_3).f0))).setCell ⟨gb190, 1, none⟩ (.int .i64 ((rd_T27 l0 x62_3).f1))).setCell ⟨gb190, 2, none⟩ (.int .i64 ((rd_T27 l0 x62_3).f2))).setCell ⟨gb190, 3, none⟩ (.int .i64 ((rd_T27 l0 x62_3).f3))).setCell ⟨gb190, 4, none⟩ (.int .i64 ((rd_T27 l0 x62_3).f4))).heap[gb190]? = some (.cells #[.int .i64 ((rd_T27 l0 x62_3).f0), .int .i64 ((rd_T27 l0 x62_3).f1), .int .i64 ((rd_T27 l0 x62_3).f2), .int .i64 ((rd_T27 l0 x62_3).f3), .int .i64 ((rd_T27 l0 x62_3).f4)] 27 (0, 0))) := ⟨by (with_reducible repeat (first | refine blk_drewN ?_ _ | refine blk_drew ?_ | refine blk_alloc ?_ _)); refine blk_put (cs := #[.int .i64 ((rd_T27 l0 x62_3).f0), .int .i64 ((rd_T27 l0 x62_3).f1), .int .i64 ((rd_T27 l0 x62_3).f2), .int .i64 ((rd_T27 l0 x62_3).f3), .int .i64 0]) ?_ 4 _ rfl; (with_reducible repeat (first | refine blk_drewN ?_ _ | refine blk_drew ?_ | refine blk_alloc ?_ _)); refine blk_put (cs := #[.int .i64 ((rd_T27 l0 x62_3).f0), .int .i64 ((rd_T27 l0 x62_3).f1), .int .i64 ((rd_T27 l0 x62_3).f2), .int .i64 0, .int .i64 0]) ?_ 3 _ rfl; (with_reducible repeat (first | refine blk_drewN ?_ _ | refine blk_drew ?_ | refine blk_alloc ?_ _)); refine blk_put (cs := #[.int .i64 ((rd_T27 l0 x62_3).f0), .int .i64 ((rd_T27 l0 x62_3).f1), .int .i64 0, .int .i64 0, .int .i64 0]) ?_ 2 _ rfl; (with_reducible repeat (first | refine blk_drewN ?_ _ | refine blk_drew ?_ | refine blk_alloc ?_ _)); refine blk_put (cs := #[.int .i64 ((rd_T27 l0 x62_3).f0), .int .i64 0, .int .i64 0, .int .i64 0, .int .i64 0]) ?_ 1 _ rfl; (with_reducible repeat (first | refine blk_drewN ?_ _ | refine blk_drew ?_ | refine blk_alloc ?_ _)); refine blk_put (cs := #[.int .i64 0, .int .i64 0, .int .i64 0, .int .i64 0, .int .i64 0]) ?_ 0 _ rfl; (with_reducible repeat (first | refine blk_drewN ?_ _ | refine blk_drew ?_ | refine blk_alloc ?_ _)); exact BK190.out⟩
                                have n5_ : Aside0 (Below w.heap.size w (((((w46.setCell ⟨gb190, 0, none⟩ (.int .i64 ((rd_T27 l0 x62_3).f0))).setCell ⟨gb190, 1, none⟩ (.int .i64 ((rd_T27 l0 x62_3).f1))).setCell ⟨gb190, 2, none⟩ (.int .i64 ((rd_T27 l0 x62_3).f2))).setCell ⟨gb190, 3, none⟩ (.int .i64 ((rd_T27 l0 x62_3).f3))).setCell ⟨gb190, 4, none⟩ (.int .i64 ((rd_T27 l0 x62_3).f4)))) := ⟨by repeat (first | (with_reducible first | exact HB.out | apply below_alloc | apply pw_below_drewN | apply below_drew1 | refine below_set ?_ GE190.out) | exact HB.out)⟩
                                (try clear HO_7)
                                (try clear HO_8)
                                (try clear HO_9)
                                (try clear HO_10)
                                (try clear BK190)
                                (try clear HB)
                                generalize (((((w46.setCell ⟨gb190, 0, none⟩ (.int .i64 ((rd_T27 l0 x62_3).f0))).setCell ⟨gb190, 1, none⟩ (.int .i64 ((rd_T27 l0 x62_3).f1))).setCell ⟨gb190, 2, none⟩ (.int .i64 ((rd_T27 l0 x62_3).f2))).setCell ⟨gb190, 3, none⟩ (.int .i64 ((rd_T27 l0 x62_3).f3))).setCell ⟨gb190, 4, none⟩ (.int .i64 ((rd_T27 l0 x62_3).f4))) = w48 at n0_ n1_ n2_ n3_ n4_ n5_ ⊢
                                have HO_7 := n0_
                                have HO_8 := n1_
                                have HO_9 := n2_
                                have HO_10 := n3_
                                have BK190 := n4_
                                have HB := n5_
                                clear n0_ n1_ n2_ n3_ n4_ n5_
                                have n0_ := Aside0.mk (Kd.R_drew HO_7.out)
                                have n1_ := Aside0.mk (Kd.R_drew HO_8.out)
                                have n2_ := Aside0.mk (Kd.R_drew HO_9.out)
                                have n3_ := Aside0.mk (Kd.R_drew HO_10.out)
                                have n4_ := Aside0.mk (blk_drew BK190.out)
                                have n5_ := Aside0.mk (below_drew1 HB.out)
                                clear HO_7
                                clear HO_8
                                clear HO_9
                                clear HO_10
                                clear BK190
                                clear HB
                                have HO_7 := n0_
                                have HO_8 := n1_
                                have HO_9 := n2_
                                have HO_10 := n3_
                                have BK190 := n4_
                                have HB := n5_
                                clear n0_ n1_ n2_ n3_ n4_ n5_
                                obtain ⟨Ao50, co50, eo50⟩ := Kd.R_slice HO_8.out
                                (first | subst eo50 | (injection eo50 with f1_ f2_ f3_; have f4_ := f1_.symm; have f5_ := f3_.symm; clear f1_ f2_ f3_; subst f4_; subst f5_))
                                have p191 : 0 ≤ (x62_3 : Int) := of_decide_eq_true (by first | (with_reducible assumption) | assumption)
                                have q191 : x62_3 < (t178.length : Int) := of_decide_eq_true (by first | (with_reducible assumption) | assumption)
                                obtain ⟨ad191, e191, hx191_0, hx191_1⟩ := at_T36 (Kd.R_reads' HO_8.out).2.2 x62_3 p191 q191
                                cases e191
                                replace p191 := eq_true p191
                                replace q191 := eq_true q191
                                obtain ⟨Ao52, co52, eo52⟩ := Kd.R_slice HO_10.out
                                (first | subst eo52 | (injection eo52 with f1_ f2_ f3_; have f4_ := f1_.symm; have f5_ := f3_.symm; clear f1_ f2_ f3_; subst f4_; subst f5_))
                                have p193 : 0 ≤ (t192 : Int) := of_decide_eq_true (by first | (with_reducible assumption) | assumption)
                                have q193 : t192 < (t184.length : Int) := of_decide_eq_true (by first | (with_reducible assumption) | assumption)
                                obtain ⟨ad193, e193, hx193_0, hx193_1⟩ := at_T36 (Kd.R_reads' HO_10.out).2.2 t192 p193 q193
                                cases e193
                                replace p193 := eq_true p193
                                replace q193 := eq_true q193
                                refine start_ (n := 11) (S := fun w' => w'.cell? ⟨gb190, 0, none⟩ = some (.int .i64 ((rd_T27 l0 x62_3).f0)) ∧ w'.cell? ⟨gb190, 1, none⟩ = some (.int .i64 ((rd_T27 l0 x62_3).f1)) ∧ w'.cell? ⟨gb190, 2, none⟩ = some (.int .i64 ((rd_T27 l0 x62_3).f2)) ∧ w'.cell? ⟨gb190, 3, none⟩ = some (.int .i64 ((rd_T27 l0 x62_3).f3)) ∧ w'.cell? ⟨gb190, 4, none⟩ = some (.int .i64 ((rd_T27 l0 x62_3).f4)) ∧ w'.cell? (ad191.add ((x62_3).toNat * 2)) = some (.int .i64 ((rd_T36 t178 x62_3).f0)) ∧ w'.cell? ⟨(ad191.add ((x62_3).toNat * 2)).block, (ad191.add ((x62_3).toNat * 2)).off + 1, none⟩ = some (.int .i64 ((rd_T36 t178 x62_3).f1)) ∧ w'.cell? (ad193.add ((t192).toNat * 2)) = some (.int .i64 ((rd_T36 t184 t192).f0)) ∧ w'.cell? ⟨(ad193.add ((t192).toNat * 2)).block, (ad193.add ((t192).toNat * 2)).off + 1, none⟩ = some (.int .i64 ((rd_T36 t184 t192).f1))) (ds := []) #[false, false, false, false, false, false, false, false, false, false, false] (by kernel_rfl) rfl rfl ⟨(blk_cell BK190.out 0).trans rfl, (blk_cell BK190.out 1).trans rfl, (blk_cell BK190.out 2).trans rfl, (blk_cell BK190.out 3).trans rfl, (blk_cell BK190.out 4).trans rfl, hx191_0, hx191_1, hx193_0, hx193_1⟩ (fun hHeld => ?_); refine with_tabW spec_TellsSame.tab14 spec_TellsSame.bits14 (fun HT_ HW_ => ?_)
                                generalize w48.drew = w49 at HO_7 HO_8 HO_9 HO_10 BK190 HB hx191_0 hx191_1 hx193_0 hx193_1 hHeld ⊢
                                refine pure_ (i := 0) (N := some 67) (v := ?_) (a' := ?_) #[true, false, false, false, false, false, false, false, false, false, false] rfl rfl (any_of HT_.out (by kernel_rfl)) (fun _ _ _ h => h) (Or.inl ⟨by rfl, ?_⟩) ?_ ?_
                                rotate_left
                                · intro w'
                                  go_simp
                                  with_reducible rfl
                                rotate_left
                                · simp only [Act.put, List.setIfInBounds_toArray, List.set_cons_zero, List.set_cons_succ, i64_w, i32_w]
                                  rfl
                                refine pure_ (i := 1) (N := some 68) (v := ?_) (a' := ?_) #[true, true, false, false, false, false, false, false, false, false, false] rfl rfl (any_of HT_.out (by kernel_rfl)) (fun _ _ _ h => h) (Or.inl ⟨by rfl, ?_⟩) ?_ ?_
                                rotate_left
                                · intro w'
                                  go_simp
                                  with_reducible rfl
                                rotate_left
                                · simp only [Act.put, List.setIfInBounds_toArray, List.set_cons_zero, List.set_cons_succ, i64_w, i32_w]
                                  rfl
                                refine pure_ (i := 2) (N := some 69) (v := ?_) (a' := ?_) #[true, true, true, false, false, false, false, false, false, false, false] rfl rfl (any_of HT_.out (by kernel_rfl)) (fun _ _ _ h => h) (Or.inl ⟨by rfl, ?_⟩) ?_ ?_
                                rotate_left
                                · intro w'
                                  go_simp
                                  with_reducible rfl
                                rotate_left
                                · simp only [Act.put, List.setIfInBounds_toArray, List.set_cons_zero, List.set_cons_succ, i64_w, i32_w]
                                  rfl
                                refine pure_ (i := 4) (N := some 71) (v := ?_) (a' := ?_) #[true, true, true, false, true, false, false, false, false, false, false] rfl rfl (any_of HT_.out (by kernel_rfl)) (fun _ _ _ h => h) (Or.inl ⟨by rfl, ?_⟩) ?_ ?_
                                rotate_left
                                · intro w'
                                  go_simp
                                  with_reducible rfl
                                rotate_left
                                · simp only [Act.put, List.setIfInBounds_toArray, List.set_cons_zero, List.set_cons_succ, i64_w, i32_w]
                                  rfl
                                refine pure_ (i := 5) (N := some 72) (v := ?_) (a' := ?_) #[true, true, true, false, true, true, false, false, false, false, false] rfl rfl (any_of HT_.out (by kernel_rfl)) (fun _ _ _ h => h) (Or.inl ⟨by rfl, ?_⟩) ?_ ?_
                                rotate_left
                                · intro w'
                                  go_simp
                                  with_reducible rfl
                                rotate_left
                                · simp only [Act.put, List.setIfInBounds_toArray, List.set_cons_zero, List.set_cons_succ, i64_w, i32_w]
                                  rfl
                                refine take_ (i := 3) (N := some 70) (v := ?_) (a' := ?_) #[true, true, true, true, true, true, false, false, false, false, false] rfl rfl (take_ofW HT_.out HW_.out (by kernel_rfl)) (fun _ _ _ h => h) (Or.inl ⟨by rfl, ?_⟩) hHeld ?_ ?_
                                rotate_left
                                · rintro w' ⟨s0, s1, s2, s3, s4, s5, s6, s7, s8⟩
                                  go_simp
                                  with_reducible rfl
                                rotate_left
                                · simp only [Act.put, List.setIfInBounds_toArray, List.set_cons_zero, List.set_cons_succ, i64_w, i32_w]
                                  rfl
                                refine take_ (i := 6) (N := some 73) (v := ?_) (a' := ?_) #[true, true, true, true, true, true, true, false, false, false, false] rfl rfl (take_ofW HT_.out HW_.out (by kernel_rfl)) (fun _ _ _ h => h) (Or.inl ⟨by rfl, ?_⟩) hHeld ?_ ?_
                                rotate_left
                                · rintro w' ⟨s0, s1, s2, s3, s4, s5, s6, s7, s8⟩
                                  go_simp
                                  with_reducible rfl
                                rotate_left
                                · simp only [Act.put, List.setIfInBounds_toArray, List.set_cons_zero, List.set_cons_succ, i64_w, i32_w]
                                  rfl
                                refine one_ (i := 7) (N := some 74) #[true, true, true, true, true, true, true, true, false, false, false] rfl rfl (one_of HT_.out (by kernel_rfl)) (by decide) (fun K hK => ?_)
                                refine goes_ Try.func69 (by kernel_rfl) rfl #[.slice A1 l1.length c1, .agg #[.int .i64 ((rd_T27 l0 x62_3).f0), .int .i64 ((rd_T27 l0 x62_3).f1), .int .i64 ((rd_T27 l0 x62_3).f2), .int .i64 ((rd_T27 l0 x62_3).f3), .int .i64 ((rd_T27 l0 x62_3).f4)]] (by rfl) rfl rfl (by (try simp only [List.map_toArray, List.map_cons, List.map_nil]); first | done | rfl | (simp only [List.length_drop, List.length_take]; rfl)) ?_
                                with_reducible refine (spec_l11Once.calls k3 _ _ l1 ((rd_T27 l0 x62_3).f0) ((rd_T27 l0 x62_3).f1) ((rd_T27 l0 x62_3).f2) ((rd_T27 l0 x62_3).f3) ((rd_T27 l0 x62_3).f4) t192 _ ?side1 ?side2 A35.out).mono ?_
                                (case side1 => repeat (first | exact (Kd.C_below HR1.out HB.out) | (with_reducible refine Kd.C_alloc ?_ _) | (with_reducible refine Kd.C_drewN ?_ _) | (with_reducible refine Kd.C_drew ?_)))
                                (case side2 => exact HC1.out)
                                rintro e w51 ⟨rfl, hb⟩
                                have HS5_ := (hb.cell (World.block_lt_of_cell? _ _ (hHeld.2.2.2.2.2.1))).trans (hHeld.2.2.2.2.2.1)
                                have HS6_ := (hb.cell (World.block_lt_of_cell? _ _ (hHeld.2.2.2.2.2.2.1))).trans (hHeld.2.2.2.2.2.2.1)
                                have HS7_ := (hb.cell (World.block_lt_of_cell? _ _ (hHeld.2.2.2.2.2.2.2.1))).trans (hHeld.2.2.2.2.2.2.2.1)
                                have HS8_ := (hb.cell (World.block_lt_of_cell? _ _ (hHeld.2.2.2.2.2.2.2.2))).trans (hHeld.2.2.2.2.2.2.2.2)
                                refine ⟨_, rfl, ?_⟩
                                have n0_ := Aside0.mk (Kd.R_below (by (with_reducible repeat (first | apply Kd.R_alloc | apply Kd.R_drewN | apply Kd.R_drew)); exact HO_7.out) hb)
                                have n1_ := Aside0.mk (Kd.R_below (by (with_reducible repeat (first | apply Kd.R_alloc | apply Kd.R_drewN | apply Kd.R_drew)); exact HO_8.out) hb)
                                have n2_ := Aside0.mk (Kd.R_below (by (with_reducible repeat (first | apply Kd.R_alloc | apply Kd.R_drewN | apply Kd.R_drew)); exact HO_9.out) hb)
                                have n3_ := Aside0.mk (Kd.R_below (by (with_reducible repeat (first | apply Kd.R_alloc | apply Kd.R_drewN | apply Kd.R_drew)); exact HO_10.out) hb)
                                have n4_ := Aside0.mk (blk_below (g := gb190) (o := .cells #[.int .i64 ((rd_T27 l0 x62_3).f0), .int .i64 ((rd_T27 l0 x62_3).f1), .int .i64 ((rd_T27 l0 x62_3).f2), .int .i64 ((rd_T27 l0 x62_3).f3), .int .i64 ((rd_T27 l0 x62_3).f4)] 27 (0, 0)) (by (with_reducible repeat (first | refine blk_drewN ?_ _ | refine blk_drew ?_ | refine blk_alloc ?_ _)); exact BK190.out) hb)
                                have n5_ := Aside0.mk (below_step (by repeat (first | (with_reducible first | exact HB.out | apply below_alloc | apply pw_below_drewN | apply below_drew1 | refine below_set ?_ GE190.out) | exact HB.out)) hb)
                                clear HO_7
                                clear HO_8
                                clear HO_9
                                clear HO_10
                                clear BK190
                                clear HB
                                have HO_7 := n0_
                                have HO_8 := n1_
                                have HO_9 := n2_
                                have HO_10 := n3_
                                have BK190 := n4_
                                have HB := n5_
                                clear n0_ n1_ n2_ n3_ n4_ n5_
                                (try clear hb)
                                (try clear hb2)
                                (try clear hk)
                                (try clear hi)
                                refine hK.out _ _ ⟨(blk_cell BK190.out 0).trans rfl, (blk_cell BK190.out 1).trans rfl, (blk_cell BK190.out 2).trans rfl, (blk_cell BK190.out 3).trans rfl, (blk_cell BK190.out 4).trans rfl, HS5_, HS6_, HS7_, HS8_⟩ (fun hHeld => ?_)
                                clear hK K
                                refine norm_ (a' := ?_) ?_ ?_
                                rotate_left
                                · show Act.put _ (some 74) _ = _
                                  simp only [Act.put, List.setIfInBounds_toArray, List.set_cons_zero, List.set_cons_succ, i64_w, i32_w]
                                  rfl
                                refine pure_ (i := 8) (N := some 75) (v := ?_) (a' := ?_) #[true, true, true, true, true, true, true, true, true, false, false] rfl rfl (any_of HT_.out (by kernel_rfl)) (fun _ _ _ h => h) (Or.inl ⟨by rfl, ?_⟩) ?_ ?_
                                rotate_left
                                · intro w'
                                  go_simp
                                  with_reducible rfl
                                rotate_left
                                · simp only [Act.put, List.setIfInBounds_toArray, List.set_cons_zero, List.set_cons_succ, i64_w, i32_w]
                                  rfl
                                refine take_ (i := 9) (N := some 76) (v := ?_) (a' := ?_) #[true, true, true, true, true, true, true, true, true, true, false] rfl rfl (take_ofW HT_.out HW_.out (by kernel_rfl)) (fun _ _ _ h => h) (Or.inl ⟨by rfl, ?_⟩) hHeld ?_ ?_
                                rotate_left
                                · rintro w' ⟨s0, s1, s2, s3, s4, s5, s6, s7, s8⟩
                                  go_simp
                                  with_reducible rfl
                                rotate_left
                                · simp only [Act.put, List.setIfInBounds_toArray, List.set_cons_zero, List.set_cons_succ, i64_w, i32_w]
                                  rfl
                                refine pure_ (i := 10) (N := some 77) (v := ?_) (a' := ?_) #[true, true, true, true, true, true, true, true, true, true, true] rfl rfl (any_of HT_.out (by kernel_rfl)) (fun _ _ _ h => h) (Or.inl ⟨by rfl, ?_⟩) ?_ ?_
                                rotate_left
                                · intro w'
                                  go_simp
                                  with_reducible rfl
                                rotate_left
                                · simp only [Act.put, List.setIfInBounds_toArray, List.set_cons_zero, List.set_cons_succ, i64_w, i32_w]
                                  rfl
                                refine done_ (done_of HT_.out (by kernel_rfl)) ?_
                                try go_wp2
                                go_roundg k3
                                case measure => have := HJ2.out; have := HK2.out; have := HK3.out; omega
                                case rel => exact ⟨(wrap64 (x62_3 + 1)), (by first | rfl | (simp; done) | (simp [*]; done)), H', ⟨by have := HJ2.out; have := HK2.out; have := HK3.out; omega⟩, ⟨by (with_reducible repeat (first | apply Kd.R_alloc | apply Kd.R_drewN | apply Kd.R_drew)); exact HO_7.out⟩, ⟨by (with_reducible repeat (first | apply Kd.R_alloc | apply Kd.R_drewN | apply Kd.R_drew)); exact HO_8.out⟩, ⟨by (with_reducible repeat (first | apply Kd.R_alloc | apply Kd.R_drewN | apply Kd.R_drew)); exact HO_9.out⟩, ⟨by (with_reducible repeat (first | apply Kd.R_alloc | apply Kd.R_drewN | apply Kd.R_drew)); exact HO_10.out⟩, ⟨by repeat (first | (with_reducible first | exact HB.out | apply below_alloc | apply pw_below_drewN | apply below_drew1 | refine below_set ?_ GE190.out) | exact HB.out)⟩⟩
                            · rw [if_neg c37] at H
                              exact absurd H (by simp)
                          · rw [if_neg c36] at H
                            exact absurd H (by simp)
                        · rw [if_neg c34] at H
                          exact absurd H (by simp)
                      · rw [if_neg c33] at H
                        exact absurd H (by simp)
                    · rw [if_neg c32] at H
                      exact absurd H (by simp)
                  · rw [if_neg c31] at H
                    have c31b0 : decide (x62_3 < (l0.length : Int)) = false := decide_eq_false c31
                    clear c31
                    replace H := Option.bind_eq_some_iff.mp H
                    obtain ⟨t194, A530, H⟩ := H
                    replace H : (some (t194, true)) = some (r1, r2) := H
                    have A53 := Aside0.mk A530
                    clear A530
                    simp only [Option.some.injEq, Prod.mk.injEq] at H
                    obtain ⟨rfl, rfl⟩ := H
                    obtain ⟨Ao54, co54, eo54⟩ := Kd.R_slice HO_7.out
                    subst eo54
                    obtain ⟨Ao55, co55, eo55⟩ := Kd.R_slice HO_9.out
                    subst eo55
                    go_wp2_with (first | ((with_reducible refine gate_callee (f := 70) rfl ?_); refine goesL_ (some 81) rfl rfl Try.func70 (by kernel_rfl) rfl #[.slice Ao54 t177.length co54, .slice Ao55 t183.length co55] rfl (by (try simp only [List.map_toArray, List.map_cons, List.map_nil]); first | done | rfl | (simp only [List.length_drop, List.length_take]; rfl)) ?_; (with_reducible refine (spec_l1Same.calls k3 _ _ t177 _ _ t183 t194 _ ?side1 ?side2 ?side3 ?side4 A53.out).mono ?_); (case side1 => repeat (first | exact (Kd.R_reads' HO_7.out).2.2 | (with_reducible refine Kd.C_alloc ?_ _) | (with_reducible refine Kd.C_drewN ?_ _) | (with_reducible refine Kd.C_drew ?_))); (case side2 => exact (Kd.R_reads' HO_7.out).2.1); (case side3 => repeat (first | exact (Kd.R_reads' HO_9.out).2.2 | (with_reducible refine Kd.C_alloc ?_ _) | (with_reducible refine Kd.C_drewN ?_ _) | (with_reducible refine Kd.C_drew ?_))); (case side4 => exact (Kd.R_reads' HO_9.out).2.1); rintro e w' ⟨rfl, ⟨nd, rfl⟩⟩; refine ⟨_, rfl, ?_⟩))
                    go_ret2
                    exact ⟨by first | rfl | (simp [errW_none, errW_some] <;> rfl) | (simp [*, errW_none, errW_some] <;> rfl), by repeat (first | (with_reducible first | exact HB.out | apply below_alloc | apply pw_below_drewN | apply below_drew1) | exact HB.out)⟩

end Go.Proofs.Ytbhhgeecieeefaa.QFnExactTellsSame
