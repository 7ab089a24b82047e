-- Written by a program of this session (wip/mk.py) over the kit's print: Lean checks it.
import Derived.Test.YtpboalgecejoeaaQFnComponentsx0
import Derived.Test.YtpboalgecejoeaaQFnComponentsx4
import Derived.Test.YtpboalgecejoeaaQFnComponentsx6
namespace Go.Proofs.Ytpboalgecejoeaa.QFnComponents
open Go.Proofs.YtpboalgecejoeaaW.PrintWords.Kd renaming R_alloc → Ra, R_drewN → Rn, R_drew → Rd
open Go.Proofs.YtpboalgecejoeaaW.PrintWords renaming below_alloc → Ba, pw_below_drewN → Bn, below_drew1 → Bd, below_size → Bz, below_step → Bt, gate_dst → Gd, gate_callee → Gc
open Go.World renaming block_lt_of_cell? → bl_
open Go.Proofs.YtpboalgecejoeaaW.PrintWords.Aside0 renaming mk → Am
open Go.Proofs.YtpboalgecejoeaaW.PrintWords renaming Aside0 → Ad
open Go.RowKit Go.Proofs.YtpboalgecejoeaaW.PrintWords Go.Proofs.YtpboalgecejoeaaW.PrintLast Go.Proofs.YtpboalgecejoeaaW.PrintMore
attribute [local go_sem] max2_int min2_int max_two min_two max_three min_three max_four min_four   -- for this text's walks alone
set_option linter.unusedVariables false
set_option linter.unusedSimpArgs false
def spec_GoodGraph.l0 : Nat → List (List Int) → List (List Int) → Int → Int → Option (Bool)
 | 0, _, _, _, _ => none
 | k + 1, x0, x5, x6, x7 => if x7 < x6 then (if 0 ≤ x7 then (if x7 < (x5.length : Int) then ((spec_l1Rising.f k (rd_L2 x5 x7) 0 (wrap64 ((x0.length : Int) - 1))).bind fun t222 => (if t222 = true then (spec_GoodGraph.l0 k x0 x5 x6 (wrap64 (x7 + 1))) else (some false))) else (none)) else (none)) else (some (decide ((x0.length : Int) ≤ 40)))
def spec_GoodGraph.f (k : Nat) (l0 : List (List Int)) : Option (Bool) := spec_GoodGraph.l0 k l0 l0 (l0.length : Int) 0
theorem spec_GoodGraph.mono_l : ∀ k, (∀ y0 y1 y2 y3, LeO (spec_GoodGraph.l0 k y0 y1 y2 y3) (spec_GoodGraph.l0 (k + 1) y0 y1 y2 y3))
 | 0 => fun _ _ _ _ r h => by simp [spec_GoodGraph.l0] at h
 | k + 1 => by
  have ih0 := spec_GoodGraph.mono_l k
  ·intro y0 y1 y2 y3
   unfold spec_GoodGraph.l0
   repeat' first
   | (with_reducible exact ih0 _ _ _ _)
   | (with_reducible exact spec_l1Rising.mono _ _ _ _)
   | (with_reducible exact LeO.refl _)
   | (with_reducible exact LeO.none _)
   | (with_reducible refine LeO.ite ?_ ?_)
   | (with_reducible refine LeO.bind ?_ (fun _ => ?_))
   | exact ih0 _ _ _ _
   | exact spec_l1Rising.mono _ _ _ _
   | exact LeO.none _
   | refine LeO.ite ?_ ?_
   | refine LeO.bind ?_ (fun _ => ?_)
theorem spec_GoodGraph.mono : ∀ a0 k, LeO (spec_GoodGraph.f k a0) (spec_GoodGraph.f (k + 1) a0) := by
 intro a0 k
 have ih0 := spec_GoodGraph.mono_l k
 unfold spec_GoodGraph.f
 repeat' first
   | (with_reducible exact ih0 _ _ _ _)
   | (with_reducible exact spec_l1Rising.mono _ _ _ _)
   | (with_reducible exact LeO.refl _)
   | (with_reducible exact LeO.none _)
   | (with_reducible refine LeO.ite ?_ ?_)
   | (with_reducible refine LeO.bind ?_ (fun _ => ?_))
   | exact ih0 _ _ _ _
   | exact spec_l1Rising.mono _ _ _ _
   | exact LeO.none _
   | refine LeO.ite ?_ ?_
   | refine LeO.bind ?_ (fun _ => ?_)
set_option maxHeartbeats 8000000 in
set_option maxRecDepth 100000 in
theorem spec_GoodGraph.calls (k : Nat) (A0 : Option Addr) (c0 : Nat) (l0 : List (List Int)) (r : Bool) (w : World) (hr0 : Kd.C (Kd.slice 3 (Kd.int .i64)) w A0 l0.length l0) (hc0 : l0.length ≤ c0) (h : spec_GoodGraph.f k l0 = some r) :
  Calls Try.prog 29 #[.slice A0 l0.length c0] w fun e w' => e = .returned (.bool r) ∧ Drawn0 w w' := by
 have HR0 := Am hr0
 have HC0 := Am hc0
 clear hr0 hc0
 have H : (spec_GoodGraph.l0 k l0 l0 (l0.length : Int) 0) = some r := h
 clear h
 have H' := Am H
 clear H
 go_enter Try.func29, Try.ntmps29
 go_wp2
 go_loopg [7] k (fun kq v7 w' => ∃ (x7_1 : Int), v7 = .int .i64 x7_1 ∧ Ad (spec_GoodGraph.l0 kq l0 l0 (l0.length : Int) x7_1 = some r) ∧ Ad (kq ≤ k) ∧ Drawn0 w w')
 case atStart => exact ⟨(0), (by first | rfl | (simp; done) | (simp [*]; done)), H', ⟨Nat.le_refl _⟩, by repeat (first | exact Drawn0.refl _ | apply Drawn0.step)⟩
 case round =>
  clear H'
  obtain ⟨x7_1, rfl, HA, HK1, ⟨m1, rfl⟩⟩ := hrel
  cases gk with
  | zero => exact absurd HA.out (by simp [spec_GoodGraph.l0])
  | succ k1 =>
   have H := HA.out
   clear HA
   simp only [spec_GoodGraph.l0] at H
   by_cases c2 : x7_1 < (l0.length : Int)
   ·rw [if_pos c2] at H
    have c2b0 : decide (x7_1 < (l0.length : Int)) = true := decide_eq_true c2
    clear c2
    by_cases c3 : 0 ≤ x7_1
    ·rw [if_pos c3] at H
     have c3b0 : decide (0 ≤ x7_1) = true := decide_eq_true c3
     clear c3
     by_cases c4 : x7_1 < (l0.length : Int)
     ·rw [if_pos c4] at H
      have c4b0 : decide (x7_1 < (l0.length : Int)) = true := decide_eq_true c4
      clear c4
      replace H := Option.bind_eq_some_iff.mp H
      obtain ⟨t222, A50, H⟩ := H
      replace H : (if t222 = true then (spec_GoodGraph.l0 k1 l0 l0 (l0.length : Int) (wrap64 (x7_1 + 1))) else (some false)) = some r := H
      have A5 := Am A50
      clear A50
      by_cases c6 : t222 = true
      ·subst c6
       have H1 : (spec_GoodGraph.l0 k1 l0 l0 (l0.length : Int) (wrap64 (x7_1 + 1))) = some r := by rw [if_pos rfl] at H; exact H
       clear H
       have H := H1
       clear H1
       have H' := Am H
       clear H
       have p221 : 0 ≤ (x7_1 : Int) := of_decide_eq_true (by assumption)
       have q221 : x7_1 < (l0.length : Int) := of_decide_eq_true (by assumption)
       obtain ⟨ad221, A221_0, c221_0, e221, hx221_0, hl221_0, hi221_0⟩ := at_L2 HR0.out x7_1 p221 q221
       cases e221
       have HR221_0 := Am hi221_0
       have HC221_0 := Am hl221_0
       clear hi221_0 hl221_0
       replace p221 := eq_true p221
       replace q221 := eq_true q221
       go_wp2_with (first | ((refine Gc (f := 78) rfl ?_); refine goesL_ (some 15) rfl rfl Try.func78 (by kernel_rfl) rfl #[.slice A221_0 (rd_L2 l0 x7_1).length c221_0, .int .i64 0, .int .i64 (wrap64 ((l0.length : Int) - 1))] rfl (by first | rfl | (simp only [List.map_toArray, List.map_cons, List.map_nil]; first | done | rfl)) ?_; (with_reducible refine (spec_l1Rising.calls k1 _ _ (rd_L2 l0 x7_1) 0 (wrap64 ((l0.length : Int) - 1)) true _ ?side1 ?side2 A5.out).mono ?_); (case side1 => repeat (first | exact HR221_0.out | (with_reducible refine Kd.C_alloc ?_ _) | (with_reducible refine Kd.C_drewN ?_ _) | (with_reducible refine Kd.C_drew ?_))); (case side2 => exact HC221_0.out); rintro e w' ⟨rfl, ⟨nd, rfl⟩⟩; refine ⟨_, rfl, ?_⟩))
       go_roundg k1
       case measure => have := HK1.out; omega
       case rel => exact ⟨(wrap64 (x7_1 + 1)), (by first | rfl | (simp; done) | (simp [*]; done)), H', ⟨by have := HK1.out; omega⟩, by repeat (first | exact Drawn0.refl _ | apply Drawn0.step)⟩
      ·replace c6 := Bool.eq_false_iff.mpr c6
       subst c6
       have H1 : (some false) = some r := by rw [if_neg (show ¬ (false = true) by decide)] at H; exact H
       clear H
       have H := H1
       clear H1
       obtain rfl := Option.some.inj H
       have p221 : 0 ≤ (x7_1 : Int) := of_decide_eq_true (by assumption)
       have q221 : x7_1 < (l0.length : Int) := of_decide_eq_true (by assumption)
       obtain ⟨ad221, A221_0, c221_0, e221, hx221_0, hl221_0, hi221_0⟩ := at_L2 HR0.out x7_1 p221 q221
       cases e221
       have HR221_0 := Am hi221_0
       have HC221_0 := Am hl221_0
       clear hi221_0 hl221_0
       replace p221 := eq_true p221
       replace q221 := eq_true q221
       go_wp2_with (first | ((refine Gc (f := 78) rfl ?_); refine goesL_ (some 15) rfl rfl Try.func78 (by kernel_rfl) rfl #[.slice A221_0 (rd_L2 l0 x7_1).length c221_0, .int .i64 0, .int .i64 (wrap64 ((l0.length : Int) - 1))] rfl (by first | rfl | (simp only [List.map_toArray, List.map_cons, List.map_nil]; first | done | rfl)) ?_; (with_reducible refine (spec_l1Rising.calls k1 _ _ (rd_L2 l0 x7_1) 0 (wrap64 ((l0.length : Int) - 1)) false _ ?side1 ?side2 A5.out).mono ?_); (case side1 => repeat (first | exact HR221_0.out | (with_reducible refine Kd.C_alloc ?_ _) | (with_reducible refine Kd.C_drewN ?_ _) | (with_reducible refine Kd.C_drew ?_))); (case side2 => exact HC221_0.out); rintro e w' ⟨rfl, ⟨nd, rfl⟩⟩; refine ⟨_, rfl, ?_⟩))
       go_ret
       exact ⟨by first | rfl | (simp; done) | (simp [*]; done), by repeat (first | exact Drawn0.refl _ | apply Drawn0.step)⟩
     ·rw [if_neg c4] at H
      exact absurd H (by simp)
    ·rw [if_neg c3] at H
     exact absurd H (by simp)
   ·rw [if_neg c2] at H
    have c2b0 : decide (x7_1 < (l0.length : Int)) = false := decide_eq_false c2
    clear c2
    obtain rfl := Option.some.inj H
    go_wp2
    go_ret
    exact ⟨by first | rfl | (simp; done) | (simp [*]; done), by repeat (first | exact Drawn0.refl _ | apply Drawn0.step)⟩
def spec_l1Has.l0 : Nat → Int → List Int → Int → Int → Option (Bool)
 | 0, _, _, _, _ => none
 | k + 1, x1, x7, x8, x9 => if x9 < x8 then (if 0 ≤ x9 then (if x9 < (x7.length : Int) then (if (rd x7 x9) = x1 then (some true) else (spec_l1Has.l0 k x1 x7 x8 (wrap64 (x9 + 1)))) else (none)) else (none)) else (some false)
def spec_l1Has.f (k : Nat) (l0 : List Int) (a1 : Int) : Option (Bool) := spec_l1Has.l0 k a1 l0 (l0.length : Int) 0
theorem spec_l1Has.mono_l : ∀ k, (∀ y0 y1 y2 y3, LeO (spec_l1Has.l0 k y0 y1 y2 y3) (spec_l1Has.l0 (k + 1) y0 y1 y2 y3))
 | 0 => fun _ _ _ _ r h => by simp [spec_l1Has.l0] at h
 | k + 1 => by
  have ih0 := spec_l1Has.mono_l k
  ·intro y0 y1 y2 y3
   unfold spec_l1Has.l0
   repeat' first
   | (with_reducible exact ih0 _ _ _ _)
   | (with_reducible exact LeO.refl _)
   | (with_reducible exact LeO.none _)
   | (with_reducible refine LeO.ite ?_ ?_)
   | (with_reducible refine LeO.bind ?_ (fun _ => ?_))
   | exact ih0 _ _ _ _
   | exact LeO.none _
   | refine LeO.ite ?_ ?_
   | refine LeO.bind ?_ (fun _ => ?_)
theorem spec_l1Has.mono : ∀ a0 a1 k, LeO (spec_l1Has.f k a0 a1) (spec_l1Has.f (k + 1) a0 a1) := by
 intro a0 a1 k
 have ih0 := spec_l1Has.mono_l k
 unfold spec_l1Has.f
 repeat' first
   | (with_reducible exact ih0 _ _ _ _)
   | (with_reducible exact LeO.refl _)
   | (with_reducible exact LeO.none _)
   | (with_reducible refine LeO.ite ?_ ?_)
   | (with_reducible refine LeO.bind ?_ (fun _ => ?_))
   | exact ih0 _ _ _ _
   | exact LeO.none _
   | refine LeO.ite ?_ ?_
   | refine LeO.bind ?_ (fun _ => ?_)
set_option maxHeartbeats 8000000 in
set_option maxRecDepth 100000 in
theorem spec_l1Has.calls (k : Nat) (A0 : Option Addr) (c0 : Nat) (l0 : List Int) (a1 : Int) (r : Bool) (w : World) (hr0 : Kd.C (Kd.int .i64) w A0 l0.length l0) (hc0 : l0.length ≤ c0) (h : spec_l1Has.f k l0 a1 = some r) :
  Calls Try.prog 49 #[.slice A0 l0.length c0, .int .i64 a1] w fun e w' => e = .returned (.bool r) ∧ Drawn0 w w' := by
 have HR0 := Am hr0
 have HC0 := Am hc0
 clear hr0 hc0
 have H : (spec_l1Has.l0 k a1 l0 (l0.length : Int) 0) = some r := h
 clear h
 have H' := Am H
 clear H
 go_enter Try.func49, Try.ntmps49
 go_wp2
 go_loopg [9] k (fun kq v9 w' => ∃ (x9_1 : Int), v9 = .int .i64 x9_1 ∧ Ad (spec_l1Has.l0 kq a1 l0 (l0.length : Int) x9_1 = some r) ∧ Ad (kq ≤ k) ∧ Drawn0 w w')
 case atStart => exact ⟨(0), (by first | rfl | (simp; done) | (simp [*]; done)), H', ⟨Nat.le_refl _⟩, by repeat (first | exact Drawn0.refl _ | apply Drawn0.step)⟩
 case round =>
  clear H'
  try clear p2
  obtain ⟨x9_1, rfl, HA, HK1, ⟨m1, rfl⟩⟩ := hrel
  cases gk with
  | zero => exact absurd HA.out (by simp [spec_l1Has.l0])
  | succ k1 =>
   have H := HA.out
   clear HA
   simp only [spec_l1Has.l0] at H
   by_cases c3 : x9_1 < (l0.length : Int)
   ·rw [if_pos c3] at H
    have c3b0 : decide (x9_1 < (l0.length : Int)) = true := decide_eq_true c3
    clear c3
    by_cases c4 : 0 ≤ x9_1
    ·rw [if_pos c4] at H
     have c4b0 : decide (0 ≤ x9_1) = true := decide_eq_true c4
     clear c4
     by_cases c5 : x9_1 < (l0.length : Int)
     ·rw [if_pos c5] at H
      have c5b0 : decide (x9_1 < (l0.length : Int)) = true := decide_eq_true c5
      clear c5
      by_cases c6 : (rd l0 x9_1) = a1
      ·rw [if_pos c6] at H
       have c6b0 : ((rd l0 x9_1) == a1) = true := beq_iff_eq.mpr c6
       have c6b1 : ((rd l0 x9_1) != a1) = false := bne_eq_false_iff_eq.mpr c6
       clear c6
       obtain rfl := Option.some.inj H
       have p223 : 0 ≤ (x9_1 : Int) := of_decide_eq_true (by assumption)
       have q223 : x9_1 < (l0.length : Int) := of_decide_eq_true (by assumption)
       obtain ⟨ad223, e223, hx223_0⟩ := Kd.at_int HR0.out x9_1 p223 q223
       cases e223
       replace p223 := eq_true p223
       replace q223 := eq_true q223
       go_wp2
       go_ret
       exact ⟨by first | rfl | (simp; done) | (simp [*]; done), by repeat (first | exact Drawn0.refl _ | apply Drawn0.step)⟩
      ·rw [if_neg c6] at H
       have c6b0 : ((rd l0 x9_1) == a1) = false := beq_eq_false_iff_ne.mpr c6
       have c6b1 : ((rd l0 x9_1) != a1) = true := bne_iff_ne.mpr c6
       have H' := Am H
       clear H
       have p223 : 0 ≤ (x9_1 : Int) := of_decide_eq_true (by assumption)
       have q223 : x9_1 < (l0.length : Int) := of_decide_eq_true (by assumption)
       obtain ⟨ad223, e223, hx223_0⟩ := Kd.at_int HR0.out x9_1 p223 q223
       cases e223
       replace p223 := eq_true p223
       replace q223 := eq_true q223
       go_wp2
       go_roundg k1
       case measure => have := HK1.out; omega
       case rel => exact ⟨(wrap64 (x9_1 + 1)), (by first | rfl | (simp; done) | (simp [*]; done)), H', ⟨by have := HK1.out; omega⟩, by repeat (first | exact Drawn0.refl _ | apply Drawn0.step)⟩
     ·rw [if_neg c5] at H
      exact absurd H (by simp)
    ·rw [if_neg c4] at H
     exact absurd H (by simp)
   ·rw [if_neg c3] at H
    have c3b0 : decide (x9_1 < (l0.length : Int)) = false := decide_eq_false c3
    clear c3
    obtain rfl := Option.some.inj H
    go_wp2
    go_ret
    exact ⟨by first | rfl | (simp; done) | (simp [*]; done), by repeat (first | exact Drawn0.refl _ | apply Drawn0.step)⟩
mutual
def spec_l5Reached.l0 : Nat → List (List Int) → List Int → List Int → Int → Option (List Int)
 | 0, _, _, _, _ => none
 | k + 1, x0, x5, x6, x7 => if x7 < (x6.length : Int) then (if 0 ≤ x7 then (if 0 ≤ (rd x6 x7) then (if (rd x6 x7) < (x0.length : Int) then (spec_l5Reached.l1 k x0 x5 x6 x7 (rd_L2 x0 (rd x6 x7)) ((rd_L2 x0 (rd x6 x7)).length : Int) 0) else (none)) else (none)) else (none)) else (some x5)
def spec_l5Reached.l1 : Nat → List (List Int) → List Int → List Int → Int → List Int → Int → Int → Option (List Int)
 | 0, _, _, _, _, _, _, _ => none
 | k + 1, x0, x5, x6, x7, x26, x27, x28 => if x28 < x27 then (if 0 ≤ x28 then (if x28 < (x26.length : Int) then ((spec_l1Has.f k x6 (rd x26 x28)).bind fun t233 => (if t233 = true then (spec_l5Reached.l1 k x0 x5 x6 x7 x26 x27 (wrap64 (x28 + 1))) else (if x6.length < 17592186044416 then ((spec_l1Put.f k x5 (rd x26 x28)).bind fun t237 => (spec_l5Reached.l1 k x0 t237 (x6 ++ [rd x26 x28]) x7 x26 x27 (wrap64 (x28 + 1)))) else (none)))) else (none)) else (none)) else (spec_l5Reached.l0 k x0 x5 x6 (wrap64 (x7 + 1)))
end
def spec_l5Reached.f (k : Nat) (l0 : List (List Int)) (a1 : Int) : Option (List Int) := spec_l5Reached.l0 k l0 (([a1] : List Int)) (([a1] : List Int)) 0
theorem spec_l5Reached.mono_l : ∀ k, (∀ y0 y1 y2 y3, LeO (spec_l5Reached.l0 k y0 y1 y2 y3) (spec_l5Reached.l0 (k + 1) y0 y1 y2 y3)) ∧ (∀ y0 y1 y2 y3 y4 y5 y6, LeO (spec_l5Reached.l1 k y0 y1 y2 y3 y4 y5 y6) (spec_l5Reached.l1 (k + 1) y0 y1 y2 y3 y4 y5 y6))
 | 0 => ⟨fun _ _ _ _ r h => by simp [spec_l5Reached.l0] at h, fun _ _ _ _ _ _ _ r h => by simp [spec_l5Reached.l1] at h⟩
 | k + 1 => by
  obtain ⟨ih0, ih1⟩ := spec_l5Reached.mono_l k
  refine ⟨?_, ?_⟩
  ·intro y0 y1 y2 y3
   unfold spec_l5Reached.l0
   repeat' first
   | (with_reducible exact ih0 _ _ _ _)
   | (with_reducible exact ih1 _ _ _ _ _ _ _)
   | (with_reducible exact spec_l1Has.mono _ _ _)
   | (with_reducible exact spec_l1Put.mono _ _ _)
   | (with_reducible exact LeO.refl _)
   | (with_reducible exact LeO.none _)
   | (with_reducible refine LeO.ite ?_ ?_)
   | (with_reducible refine LeO.bind ?_ (fun _ => ?_))
   | exact ih0 _ _ _ _
   | exact ih1 _ _ _ _ _ _ _
   | exact spec_l1Has.mono _ _ _
   | exact spec_l1Put.mono _ _ _
   | exact LeO.none _
   | refine LeO.ite ?_ ?_
   | refine LeO.bind ?_ (fun _ => ?_)
  ·intro y0 y1 y2 y3 y4 y5 y6
   unfold spec_l5Reached.l1
   repeat' first
   | (with_reducible exact ih0 _ _ _ _)
   | (with_reducible exact ih1 _ _ _ _ _ _ _)
   | (with_reducible exact spec_l1Has.mono _ _ _)
   | (with_reducible exact spec_l1Put.mono _ _ _)
   | (with_reducible exact LeO.refl _)
   | (with_reducible exact LeO.none _)
   | (with_reducible refine LeO.ite ?_ ?_)
   | (with_reducible refine LeO.bind ?_ (fun _ => ?_))
   | exact ih0 _ _ _ _
   | exact ih1 _ _ _ _ _ _ _
   | exact spec_l1Has.mono _ _ _
   | exact spec_l1Put.mono _ _ _
   | exact LeO.none _
   | refine LeO.ite ?_ ?_
   | refine LeO.bind ?_ (fun _ => ?_)
theorem spec_l5Reached.mono : ∀ a0 a1 k, LeO (spec_l5Reached.f k a0 a1) (spec_l5Reached.f (k + 1) a0 a1) := by
 intro a0 a1 k
 obtain ⟨ih0, ih1⟩ := spec_l5Reached.mono_l k
 unfold spec_l5Reached.f
 repeat' first
   | (with_reducible exact ih0 _ _ _ _)
   | (with_reducible exact ih1 _ _ _ _ _ _ _)
   | (with_reducible exact spec_l1Has.mono _ _ _)
   | (with_reducible exact spec_l1Put.mono _ _ _)
   | (with_reducible exact LeO.refl _)
   | (with_reducible exact LeO.none _)
   | (with_reducible refine LeO.ite ?_ ?_)
   | (with_reducible refine LeO.bind ?_ (fun _ => ?_))
   | exact ih0 _ _ _ _
   | exact ih1 _ _ _ _ _ _ _
   | exact spec_l1Has.mono _ _ _
   | exact spec_l1Put.mono _ _ _
   | exact LeO.none _
   | refine LeO.ite ?_ ?_
   | refine LeO.bind ?_ (fun _ => ?_)
set_option maxHeartbeats 8000000 in
set_option maxRecDepth 100000 in
theorem spec_l5Reached.calls (k : Nat) (A0 : Option Addr) (c0 : Nat) (l0 : List (List Int)) (a1 : Int) (r : List Int) (w : World) (hr0 : Kd.C (Kd.slice 3 (Kd.int .i64)) w A0 l0.length l0) (hc0 : l0.length ≤ c0) (h : spec_l5Reached.f k l0 a1 = some r) :
  Calls Try.prog 50 #[.slice A0 l0.length c0, .int .i64 a1] w fun e w' => ∃ v0_ : Value, e = .returned (v0_) ∧ Kd.R (Kd.int .i64) 3 w' w.heap.size (fun _ => True) v0_ r ∧ Below w.heap.size w w' := by
 have HR0 := Am hr0
 have HC0 := Am hc0
 clear hr0 hc0
 have HB := Am (Below.refl w.heap.size w)
 have H : (spec_l5Reached.l0 k l0 (([a1] : List Int)) (([a1] : List Int)) 0) = some r := h
 clear h
 obtain ⟨y224, hy224⟩ : ∃ y_ : List Int, y_ = (([a1] : List Int)) := ⟨_, rfl⟩
 replace H : (spec_l5Reached.l0 k l0 y224 (([a1] : List Int)) 0) = some r := by first | (rw [hy224]; with_reducible exact H) | (have H2_ := (Option.bind_some _ _).symm.trans H; rw [hy224]; with_reducible exact H2_) | (have H2_ := (Option.bind_some _ _).symm.trans H; with_reducible exact H2_) | with_reducible exact H | (rw [hy224]; exact H) | exact H
 have Ny224 := Am hy224
 clear hy224
 obtain ⟨y227, hy227⟩ : ∃ y_ : List Int, y_ = (([a1] : List Int)) := ⟨_, rfl⟩
 replace H : (spec_l5Reached.l0 k l0 y224 y227 0) = some r := by first | (rw [hy227]; with_reducible exact H) | (have H2_ := (Option.bind_some _ _).symm.trans H; rw [hy227]; with_reducible exact H2_) | (have H2_ := (Option.bind_some _ _).symm.trans H; with_reducible exact H2_) | with_reducible exact H | (rw [hy227]; exact H) | exact H
 have Ny227 := Am hy227
 clear hy227
 have H' := Am H
 clear H
 go_enter Try.func50, Try.ntmps50
 go_wp2_with (first | ((refine Gd (N := 11) rfl ?_); refine Kd.R_lit (Kd.int .i64) _ 3 ?hg (N := 11) ?hd (xs := ([a1] : List Int)) (inner := [.int .i64 a1]) (ok := fun _ => True) (okp := fun _ => True) ?hr ?hp (fun _ hk => hk) trivial (Below.refl _ _) (Nat.le_refl _) (by simp) ?_; (case hd | hg => rfl); (case hr => first | (go_simp; done) | (go_simp; rfl)); (case hp => exact (Reps.one (show Kd.M (Kd.int .i64) _ _ _ a1 [.int .i64 a1] from rfl) (Reps.none _ _))); intro v225 w3 ho4 hb hg_ hnew_; clear hg_ hnew_; (first | rw [← Ny224.out] at ho4 | (simp only [Int.reduceToNat] at ho4; rw [← Ny224.out] at ho4)); have n0_ := Am (Kd.R_lower ho4 (Bz (by repeat (first | exact HB.out | apply Ba | apply Bn | apply Bd)))); have n1_ := Am (Bt (by repeat (first | exact HB.out | apply Ba | apply Bn | apply Bd)) hb); clear HB; have HO226 := n0_; have HB := n1_; clear n0_ n1_; clear hb ho4) | ((refine Gd (N := 13) rfl ?_); refine Kd.R_lit (Kd.int .i64) _ 3 ?hg (N := 13) ?hd (xs := ([a1] : List Int)) (inner := [.int .i64 a1]) (ok := fun _ => True) (okp := fun _ => True) ?hr ?hp (fun _ hk => hk) trivial (Below.refl _ _) (Nat.le_refl _) (by simp) ?_; (case hd | hg => rfl); (case hr => first | (go_simp; done) | (go_simp; rfl)); (case hp => exact (Reps.one (show Kd.M (Kd.int .i64) _ _ _ a1 [.int .i64 a1] from rfl) (Reps.none _ _))); intro v228 w5 ho6 hb hg_ hnew_; clear hg_ hnew_; (first | rw [← Ny227.out] at ho6 | (simp only [Int.reduceToNat] at ho6; rw [← Ny227.out] at ho6)); have n0_ := Am (Kd.R_elder' (by (with_reducible repeat (first | apply Ra | apply Rn | apply Rd)); exact HO226.out) (Kd.R_base ho6) hb); have n1_ := Am (Kd.R_lower (Kd.R_new' ho6 (Kd.R_lt (by (with_reducible repeat (first | apply Ra | apply Rn | apply Rd)); exact HO226.out))) (Bz (by repeat (first | exact HB.out | apply Ba | apply Bn | apply Bd)))); have n2_ := Am (Bt (by repeat (first | exact HB.out | apply Ba | apply Bn | apply Bd)) hb); clear HO226; clear HB; have HO226 := n0_; have HO229 := n1_; have HB := n2_; clear n0_ n1_ n2_; clear hb ho6))
 go_loopg [5, 6, 7] k (fun kq v5 v6 v7 w' => ∃ (x5_1 : List Int) (x6_1 : List Int) (x7_1 : Int), v7 = .int .i64 x7_1 ∧ Ad (spec_l5Reached.l0 kq l0 x5_1 x6_1 x7_1 = some r) ∧ Ad (kq ≤ k) ∧ Ad (Kd.R (Kd.int .i64) 3 w' w.heap.size (fun k_ => some k_ ≠ (v6 : Value).ownBlock) v5 x5_1) ∧ Ad (Kd.R (Kd.int .i64) 3 w' w.heap.size (fun k_ => some k_ ≠ (v5 : Value).ownBlock) v6 x6_1) ∧ Ad (Below w.heap.size w w'))
 case atStart => exact ⟨(y224), (y227), (0), (by first | rfl | (simp; done) | (simp [*]; done)), H', ⟨Nat.le_refl _⟩, ⟨by (with_reducible repeat (first | apply Ra | apply Rn | apply Rd)); exact Kd.R_mono HO226.out (fun _ hk => hk.2)⟩, ⟨by (with_reducible repeat (first | apply Ra | apply Rn | apply Rd)); exact Kd.R_mono HO229.out (fun _ hk => hk.2)⟩, ⟨by repeat (first | exact HB.out | apply Ba | apply Bn | apply Bd)⟩⟩
 case round =>
  clear H'
  try clear p2
  try clear c5
  obtain ⟨x5_1, x6_1, x7_1, rfl, HA, HK1, HO_5, HO_6, HB⟩ := hrel
  cases gk with
  | zero => exact absurd HA.out (by simp [spec_l5Reached.l0])
  | succ k1 =>
   have H := HA.out
   clear HA
   simp only [spec_l5Reached.l0] at H
   by_cases c7 : x7_1 < (x6_1.length : Int)
   ·rw [if_pos c7] at H
    have c7b0 : decide (x7_1 < (x6_1.length : Int)) = true := decide_eq_true c7
    clear c7
    by_cases c8 : 0 ≤ x7_1
    ·rw [if_pos c8] at H
     have c8b0 : decide (0 ≤ x7_1) = true := decide_eq_true c8
     clear c8
     by_cases c9 : 0 ≤ (rd x6_1 x7_1)
     ·rw [if_pos c9] at H
      have c9b0 : decide (0 ≤ (rd x6_1 x7_1)) = true := decide_eq_true c9
      clear c9
      by_cases c10 : (rd x6_1 x7_1) < (l0.length : Int)
      ·rw [if_pos c10] at H
       have c10b0 : decide ((rd x6_1 x7_1) < (l0.length : Int)) = true := decide_eq_true c10
       clear c10
       have H' := Am H
       clear H
       obtain ⟨Ao11, co11, eo11⟩ := Kd.R_slice HO_6.out
       subst eo11
       have p230 : 0 ≤ (x7_1 : Int) := of_decide_eq_true (by assumption)
       have q230 : x7_1 < (x6_1.length : Int) := of_decide_eq_true (by assumption)
       obtain ⟨ad230, e230, hx230_0⟩ := Kd.at_int (Kd.R_reads' HO_6.out).2.2 x7_1 p230 q230
       cases e230
       replace p230 := eq_true p230
       replace q230 := eq_true q230
       have p231 : 0 ≤ ((rd x6_1 x7_1) : Int) := of_decide_eq_true (by assumption)
       have q231 : (rd x6_1 x7_1) < (l0.length : Int) := of_decide_eq_true (by assumption)
       obtain ⟨ad231, A231_0, c231_0, e231, hx231_0, hl231_0, hi231_0⟩ := at_L2 HR0.out (rd x6_1 x7_1) p231 q231
       cases e231
       replace hx231_0 := (HB.out.cell (bl_ w _ hx231_0)).trans hx231_0
       have HR231_0 := Am hi231_0
       have HC231_0 := Am hl231_0
       clear hi231_0 hl231_0
       replace p231 := eq_true p231
       replace q231 := eq_true q231
       go_wp2
       go_loopg [5, 6, 28] k1 (fun kq v5 v6 v28 w' => ∃ (x5_2 : List Int) (x6_2 : List Int) (x28_2 : Int), v28 = .int .i64 x28_2 ∧ Ad (spec_l5Reached.l1 kq l0 x5_2 x6_2 x7_1 (rd_L2 l0 (rd x6_1 x7_1)) ((rd_L2 l0 (rd x6_1 x7_1)).length : Int) x28_2 = some r) ∧ Ad (kq ≤ k1) ∧ Ad (Kd.R (Kd.int .i64) 3 w' w.heap.size (fun k_ => some k_ ≠ (v6 : Value).ownBlock) v5 x5_2) ∧ Ad (Kd.R (Kd.int .i64) 3 w' w.heap.size (fun k_ => some k_ ≠ (v5 : Value).ownBlock) v6 x6_2) ∧ Ad (Below w.heap.size w w'))
       case atStart => exact ⟨(x5_1), (x6_1), (0), (by first | rfl | (simp; done) | (simp [*]; done)), H', ⟨Nat.le_refl _⟩, ⟨by (with_reducible repeat (first | apply Ra | apply Rn | apply Rd)); exact HO_5.out⟩, ⟨by (with_reducible repeat (first | apply Ra | apply Rn | apply Rd)); exact HO_6.out⟩, ⟨by repeat (first | exact HB.out | apply Ba | apply Bn | apply Bd)⟩⟩
       case round =>
        clear H'
        try clear c1
        try clear c2
        try clear p2
        try clear q2
        try clear hx2
        try clear c5
        try clear c7
        try clear c7b0
        try clear c8
        try clear c8b0
        try clear c9
        try clear c9b0
        try clear c10
        try clear c10b0
        try clear hx230_0
        try clear hx231_0
        try clear p2
        try clear p230
        try clear p231
        try clear q230
        try clear q231
        obtain ⟨x5_2, x6_2, x28_2, rfl, HA, HK2, HO_5, HO_6, HB⟩ := hrel
        cases gk with
        | zero => exact absurd HA.out (by simp [spec_l5Reached.l1])
        | succ k2 =>
         have H := HA.out
         clear HA
         simp only [spec_l5Reached.l1] at H
         by_cases c12 : x28_2 < ((rd_L2 l0 (rd x6_1 x7_1)).length : Int)
         ·rw [if_pos c12] at H
          have c12b0 : decide (x28_2 < ((rd_L2 l0 (rd x6_1 x7_1)).length : Int)) = true := decide_eq_true c12
          clear c12
          by_cases c13 : 0 ≤ x28_2
          ·rw [if_pos c13] at H
           have c13b0 : decide (0 ≤ x28_2) = true := decide_eq_true c13
           clear c13
           by_cases c14 : x28_2 < ((rd_L2 l0 (rd x6_1 x7_1)).length : Int)
           ·rw [if_pos c14] at H
            have c14b0 : decide (x28_2 < ((rd_L2 l0 (rd x6_1 x7_1)).length : Int)) = true := decide_eq_true c14
            clear c14
            replace H := Option.bind_eq_some_iff.mp H
            obtain ⟨t233, A150, H⟩ := H
            replace H : (if t233 = true then (spec_l5Reached.l1 k2 l0 x5_2 x6_2 x7_1 (rd_L2 l0 (rd x6_1 x7_1)) ((rd_L2 l0 (rd x6_1 x7_1)).length : Int) (wrap64 (x28_2 + 1))) else (if x6_2.length < 17592186044416 then ((spec_l1Put.f k2 x5_2 (rd (rd_L2 l0 (rd x6_1 x7_1)) x28_2)).bind fun t237 => (spec_l5Reached.l1 k2 l0 t237 (x6_2 ++ [rd (rd_L2 l0 (rd x6_1 x7_1)) x28_2]) x7_1 (rd_L2 l0 (rd x6_1 x7_1)) ((rd_L2 l0 (rd x6_1 x7_1)).length : Int) (wrap64 (x28_2 + 1)))) else (none))) = some r := H
            have A15 := Am A150
            clear A150
            by_cases c16 : t233 = true
            ·subst c16
             have H1 : (spec_l5Reached.l1 k2 l0 x5_2 x6_2 x7_1 (rd_L2 l0 (rd x6_1 x7_1)) ((rd_L2 l0 (rd x6_1 x7_1)).length : Int) (wrap64 (x28_2 + 1))) = some r := by rw [if_pos rfl] at H; exact H
             clear H
             have H := H1
             clear H1
             have H' := Am H
             clear H
             have p232 : 0 ≤ (x28_2 : Int) := of_decide_eq_true (by assumption)
             have q232 : x28_2 < ((rd_L2 l0 (rd x6_1 x7_1)).length : Int) := of_decide_eq_true (by assumption)
             obtain ⟨ad232, e232, hx232_0⟩ := Kd.at_int HR231_0.out x28_2 p232 q232
             cases e232
             replace hx232_0 := (HB.out.cell (bl_ w _ hx232_0)).trans hx232_0
             replace p232 := eq_true p232
             replace q232 := eq_true q232
             obtain ⟨Ao17, co17, eo17⟩ := Kd.R_slice HO_6.out
             subst eo17
             go_wp2_with (first | ((refine Gc (f := 49) rfl ?_); refine goesL_ (some 34) rfl rfl Try.func49 (by kernel_rfl) rfl #[.slice Ao17 x6_2.length co17, .int .i64 (rd (rd_L2 l0 (rd x6_1 x7_1)) x28_2)] rfl (by first | rfl | (simp only [List.map_toArray, List.map_cons, List.map_nil]; first | done | rfl)) ?_; (with_reducible refine (spec_l1Has.calls k2 _ _ x6_2 (rd (rd_L2 l0 (rd x6_1 x7_1)) x28_2) true _ ?side1 ?side2 A15.out).mono ?_); (case side1 => repeat (first | exact (Kd.R_reads' HO_6.out).2.2 | (with_reducible refine Kd.C_alloc ?_ _) | (with_reducible refine Kd.C_drewN ?_ _) | (with_reducible refine Kd.C_drew ?_))); (case side2 => exact (Kd.R_reads' HO_6.out).2.1); rintro e w' ⟨rfl, ⟨nd, rfl⟩⟩; refine ⟨_, rfl, ?_⟩))
             go_roundg k2
             case measure => have := HK1.out; have := HK2.out; omega
             case rel => exact ⟨(x5_2), (x6_2), (wrap64 (x28_2 + 1)), (by first | rfl | (simp; done) | (simp [*]; done)), H', ⟨by have := HK1.out; have := HK2.out; omega⟩, ⟨by (with_reducible repeat (first | apply Ra | apply Rn | apply Rd)); exact HO_5.out⟩, ⟨by (with_reducible repeat (first | apply Ra | apply Rn | apply Rd)); exact HO_6.out⟩, ⟨by repeat (first | exact HB.out | apply Ba | apply Bn | apply Bd)⟩⟩
            ·replace c16 := Bool.eq_false_iff.mpr c16
             subst c16
             have H1 : (if x6_2.length < 17592186044416 then ((spec_l1Put.f k2 x5_2 (rd (rd_L2 l0 (rd x6_1 x7_1)) x28_2)).bind fun t237 => (spec_l5Reached.l1 k2 l0 t237 (x6_2 ++ [rd (rd_L2 l0 (rd x6_1 x7_1)) x28_2]) x7_1 (rd_L2 l0 (rd x6_1 x7_1)) ((rd_L2 l0 (rd x6_1 x7_1)).length : Int) (wrap64 (x28_2 + 1)))) else (none)) = some r := by rw [if_neg (show ¬ (false = true) by decide)] at H; exact H
             clear H
             have H := H1
             clear H1
             by_cases c18 : x6_2.length < 17592186044416
             ·rw [if_pos c18] at H
              have LMc18 := Am c18
              clear c18
              obtain ⟨y234, hy234⟩ : ∃ y_ : List Int, y_ = (x6_2 ++ [rd (rd_L2 l0 (rd x6_1 x7_1)) x28_2]) := ⟨_, rfl⟩
              replace H : ((spec_l1Put.f k2 x5_2 (rd (rd_L2 l0 (rd x6_1 x7_1)) x28_2)).bind fun t237 => (spec_l5Reached.l1 k2 l0 t237 y234 x7_1 (rd_L2 l0 (rd x6_1 x7_1)) ((rd_L2 l0 (rd x6_1 x7_1)).length : Int) (wrap64 (x28_2 + 1)))) = some r := by first | (rw [hy234]; with_reducible exact H) | (have H2_ := (Option.bind_some _ _).symm.trans H; rw [hy234]; with_reducible exact H2_) | (have H2_ := (Option.bind_some _ _).symm.trans H; with_reducible exact H2_) | with_reducible exact H | (rw [hy234]; exact H) | exact H
              have Ny234 := Am hy234
              clear hy234
              replace H := Option.bind_eq_some_iff.mp H
              obtain ⟨t237, A190, H⟩ := H
              replace H : (spec_l5Reached.l1 k2 l0 t237 y234 x7_1 (rd_L2 l0 (rd x6_1 x7_1)) ((rd_L2 l0 (rd x6_1 x7_1)).length : Int) (wrap64 (x28_2 + 1))) = some r := H
              have A19 := Am A190
              clear A190
              have H' := Am H
              clear H
              have p232 : 0 ≤ (x28_2 : Int) := of_decide_eq_true (by assumption)
              have q232 : x28_2 < ((rd_L2 l0 (rd x6_1 x7_1)).length : Int) := of_decide_eq_true (by assumption)
              obtain ⟨ad232, e232, hx232_0⟩ := Kd.at_int HR231_0.out x28_2 p232 q232
              cases e232
              replace hx232_0 := (HB.out.cell (bl_ w _ hx232_0)).trans hx232_0
              replace p232 := eq_true p232
              replace q232 := eq_true q232
              obtain ⟨Ao20, co20, eo20⟩ := Kd.R_slice HO_6.out
              subst eo20
              go_wp2_with (first | ((refine Gc (f := 49) rfl ?_); refine goesL_ (some 34) rfl rfl Try.func49 (by kernel_rfl) rfl #[.slice Ao20 x6_2.length co20, .int .i64 (rd (rd_L2 l0 (rd x6_1 x7_1)) x28_2)] rfl (by first | rfl | (simp only [List.map_toArray, List.map_cons, List.map_nil]; first | done | rfl)) ?_; (with_reducible refine (spec_l1Has.calls k2 _ _ x6_2 (rd (rd_L2 l0 (rd x6_1 x7_1)) x28_2) false _ ?side1 ?side2 A15.out).mono ?_); (case side1 => repeat (first | exact (Kd.R_reads' HO_6.out).2.2 | (with_reducible refine Kd.C_alloc ?_ _) | (with_reducible refine Kd.C_drewN ?_ _) | (with_reducible refine Kd.C_drew ?_))); (case side2 => exact (Kd.R_reads' HO_6.out).2.1); rintro e w' ⟨rfl, ⟨nd, rfl⟩⟩; refine ⟨_, rfl, ?_⟩) | ((with_reducible refine gate_builtin (b := .append) (xs := #[.tmp 36, .tmp 38]) rfl ?_); at_builtin; refine Kd.R_append (Kd.int .i64) (w0 := w) w.heap.size rfl (.tmp 36) (.tmp 38) 23 3 (.int .i64 0) 8 rfl Try.underlying23 info3 rfl (by decide) (by omega) (.slice Ao20 x6_2.length co20) x6_2 (rd (rd_L2 l0 (rd x6_1 x7_1)) x28_2) [.int .i64 (rd (rd_L2 l0 (rd x6_1 x7_1)) x28_2)] (fun k_ => some k_ ≠ (u5 : Value).ownBlock) (fun _ => False) rfl rfl ?aP (fun _ hk => hk.elim) ?aF ?aO ?aB ?aS ?aL ?_; (case aP => exact rfl); (case aB => exact (by repeat (first | exact HB.out | apply Ba | apply Bn | apply Bd))); (case aF => exact (fun k_ hk => Kd.fresh' (Kd.R_lt (by (with_reducible repeat (first | apply Ra | apply Rn | apply Rd)); exact HO_5.out)) k_ hk)); (case aO => exact (by (with_reducible repeat (first | apply Ra | apply Rn | apply Rd)); exact HO_6.out)); (case aS => exact (Bz (by repeat (first | exact HB.out | apply Ba | apply Bn | apply Bd)))); (case aL => have := LMc18.out; omega); intro v235 w21 ho hb hg hat; rw [← Ny234.out] at ho; have n0_ := Am (Kd.R_after (ok := (fun _ => True)) (by (with_reducible repeat (first | apply Ra | apply Rn | apply Rd)); exact Kd.R_mono HO_5.out (fun _ hk => ⟨trivial, hk⟩)) hg hat); have n1_ := Am (hb); have n2_ := Am (ho); clear HO_5; clear HB; clear HO_6; have HO_5 := n0_; have HB := n1_; have HO236 := n2_; clear n0_ n1_ n2_; clear ho hb hg hat; obtain ⟨Ao22, co22, eo22⟩ := Kd.R_slice HO_5.out; subst eo22) | ((refine Gc (f := 103) rfl ?_); refine goesL_ (some 42) rfl rfl Try.func103 (by kernel_rfl) rfl #[.slice Ao22 x5_2.length co22, .int .i64 (rd (rd_L2 l0 (rd x6_1 x7_1)) x28_2)] rfl (by first | rfl | (simp only [List.map_toArray, List.map_cons, List.map_nil]; first | done | rfl)) ?_; (with_reducible refine (spec_l1Put.calls k2 (fun k_ => some k_ = (.slice Ao22 x5_2.length co22 : Value).ownBlock) (.slice Ao22 x5_2.length co22) x5_2 (rd (rd_L2 l0 (rd x6_1 x7_1)) x28_2) t237 w _ ?side1 ?side2 A19.out).mono ?_); (case side1 => repeat (first | exact HB.out | apply Ba | apply Bn | apply Bd)); (case side2 => exact Kd.R_tight rfl HO_5.out); rintro e w23 ⟨v238, rfl, ho0, hb, hkp⟩; refine ⟨_, rfl, ?_⟩; have n0_ := Am (Kd.R_mono (ok' := fun k_ => some k_ ≠ (v238 : Value).ownBlock) (Kd.R_keptB (HO236.out) hkp (fun k_ hk_ hs_ => (hk_) hs_)) (fun k_ hk_ => fun e_ => Or.elim (ho0.1 k_ e_.symm) (fun hs_ => hk_.2.1 hs_) (fun hn_ => Nat.not_le.2 hk_.2.2 hn_))); have n1_ := Am (Kd.R_mono (ok' := fun k_ => some k_ ≠ (v235 : Value).ownBlock) ho0 (fun k_ hk_ => Or.elim hk_ (fun hs_ => fun e_ => (((HO236.out).1 k_ e_.symm)) hs_) (fun hn_ => (Kd.fresh' (Kd.R_lt (by (with_reducible repeat (first | apply Ra | apply Rn | apply Rd)); exact HO236.out)) k_ hn_)))); have n2_ := Am (hb); clear HO236; clear HB; clear HO_5; have HO236 := n0_; have HO239 := n1_; have HB := n2_; clear n0_ n1_ n2_; (try clear hb); (try clear hkp); (try clear ho0)))
              go_roundg k2
              case measure => have := HK1.out; have := HK2.out; omega
              case rel => exact ⟨(t237), (y234), (wrap64 (x28_2 + 1)), (by first | rfl | (simp; done) | (simp [*]; done)), H', ⟨by have := HK1.out; have := HK2.out; omega⟩, ⟨by (with_reducible repeat (first | apply Ra | apply Rn | apply Rd)); exact HO239.out⟩, ⟨by (with_reducible repeat (first | apply Ra | apply Rn | apply Rd)); exact HO236.out⟩, ⟨by repeat (first | exact HB.out | apply Ba | apply Bn | apply Bd)⟩⟩
             ·rw [if_neg c18] at H
              exact absurd H (by simp)
           ·rw [if_neg c14] at H
            exact absurd H (by simp)
          ·rw [if_neg c13] at H
           exact absurd H (by simp)
         ·rw [if_neg c12] at H
          have c12b0 : decide (x28_2 < ((rd_L2 l0 (rd x6_1 x7_1)).length : Int)) = false := decide_eq_false c12
          clear c12
          have H' := Am H
          clear H
          go_wp2
          go_roundg k2
          case measure => have := HK1.out; have := HK2.out; omega
          case rel => exact ⟨(x5_2), (x6_2), (wrap64 (x7_1 + 1)), (by first | rfl | (simp; done) | (simp [*]; done)), H', ⟨by have := HK1.out; have := HK2.out; omega⟩, ⟨by (with_reducible repeat (first | apply Ra | apply Rn | apply Rd)); exact HO_5.out⟩, ⟨by (with_reducible repeat (first | apply Ra | apply Rn | apply Rd)); exact HO_6.out⟩, ⟨by repeat (first | exact HB.out | apply Ba | apply Bn | apply Bd)⟩⟩
      ·rw [if_neg c10] at H
       exact absurd H (by simp)
     ·rw [if_neg c9] at H
      exact absurd H (by simp)
    ·rw [if_neg c8] at H
     exact absurd H (by simp)
   ·rw [if_neg c7] at H
    have c7b0 : decide (x7_1 < (x6_1.length : Int)) = false := decide_eq_false c7
    clear c7
    obtain rfl := Option.some.inj H
    obtain ⟨Ao24, co24, eo24⟩ := Kd.R_slice HO_6.out
    subst eo24
    go_wp2
    go_ret
    exact ⟨_, by first | rfl | (simp [*, errW_none, errW_some] <;> rfl), by (with_reducible repeat (first | apply Ra | apply Rn | apply Rd)); exact Kd.R_mono HO_5.out (fun _ hk => trivial), by repeat (first | exact HB.out | apply Ba | apply Bn | apply Bd)⟩
def spec_l5Groups.al (k : Nat) (g : List (List Int)) : Nat → Nat → Option (List (List Int))
 | 0, _ => some []
 | d + 1, i => (spec_l5Reached.f k g (i : Int)).bind fun r => (spec_l5Groups.al k g d (i + 1)).map (r :: ·)
def spec_l5Groups.gr (all : List (List Int)) (i : Nat) : List Int := (all.getD i []).filter fun n => Mine.anyP (fun x => x == (i : Int)) (all.getD n.toNat [])
def spec_l5Groups.gs (all : List (List Int)) : Nat → Nat → List (List Int)
 | 0, _ => []
 | d + 1, i => if (spec_l5Groups.gr all i).getD 0 0 = (i : Int) then spec_l5Groups.gr all i :: spec_l5Groups.gs all d (i + 1) else spec_l5Groups.gs all d (i + 1)
def spec_l5Groups.ok (n : Nat) (all : List (List Int)) : Bool := decide (n ≤ 1000) && (all.all fun a => decide (a.length ≤ 1000) && a.all fun p => decide (0 ≤ p ∧ p < (n : Int))) && (List.range n).all fun i => decide (spec_l5Groups.gr all i ≠ [])
def spec_l5Groups.f (k : Nat) (l0 : List (List Int)) : Option (List (List Int)) := (spec_l5Groups.al k l0 l0.length 0).bind fun all => if spec_l5Groups.ok l0.length all = true then some (spec_l5Groups.gs all l0.length 0) else none
theorem spec_l5Groups.mono_al (g : List (List Int)) (k : Nat) : ∀ d i, LeO (spec_l5Groups.al k g d i) (spec_l5Groups.al (k + 1) g d i)
 | 0, _ => LeO.refl _
 | d + 1, i => by
  unfold spec_l5Groups.al
  exact LeO.bind (spec_l5Reached.mono _ _ _) (fun _ => LeO.map _ (spec_l5Groups.mono_al g k d _))
theorem spec_l5Groups.mono : ∀ a0 k, LeO (spec_l5Groups.f k a0) (spec_l5Groups.f (k + 1) a0) := by
 intro a0 k
 unfold spec_l5Groups.f
 exact LeO.bind (spec_l5Groups.mono_al _ _ _ _) (fun _ => LeO.refl _)
theorem spec_l5Groups.okE {n : Nat} {all : List (List Int)} (h : spec_l5Groups.ok n all = true) : n ≤ 1000 ∧ (∀ a ∈ all, a.length ≤ 1000 ∧ ∀ p ∈ a, 0 ≤ p ∧ p < (n : Int)) ∧ ∀ i, i < n → spec_l5Groups.gr all i ≠ [] := by
 unfold spec_l5Groups.ok at h
 simp only [Bool.and_eq_true, decide_eq_true_eq, List.all_eq_true, List.mem_range] at h
 exact ⟨h.1.1, h.1.2, h.2⟩
theorem spec_l5Groups.al_len (k : Nat) (g : List (List Int)) : ∀ d i all, spec_l5Groups.al k g d i = some all → all.length = d
 | 0, _, all, h => by cases h; rfl
 | d + 1, i, all, h => by
  unfold spec_l5Groups.al at h
  obtain ⟨r, _, h⟩ := Option.bind_eq_some_iff.1 h
  obtain ⟨rs, hrs, rfl⟩ := Option.map_eq_some_iff.1 h
  rw [List.length_cons, spec_l5Groups.al_len k g d _ rs hrs]
theorem spec_l5Groups.has (l : List Int) (n : Int) (hm : l.length ≤ 9223372036854775807) : ∃ K, spec_l1Has.f K l n = some (Mine.anyP (fun x => x == n) l) := by
 have key : ∀ d i : Nat, l.length - i = d → i ≤ l.length → ∃ K, spec_l1Has.l0 K n l (l.length : Int) (i : Int) = some (Mine.anyP (fun x => x == n) (l.drop i)) := by
  intro d
  induction d with
  | zero =>
   intro i hd hi
   obtain rfl : i = l.length := by omega
   exact ⟨1, by simp [spec_l1Has.l0, Mine.anyP]⟩
  | succ d ih =>
   intro i hd hi
   obtain ⟨K, hK⟩ := ih (i + 1) (by omega) (by omega)
   refine ⟨K + 1, ?_⟩
   rw [Mine.drop_at l 0 i (by omega), Mine.anyP_cons]
   simp only [spec_l1Has.l0]
   rw [if_pos (by omega), if_pos (by omega), if_pos (by omega), show wrap64 ((i : Int) + 1) = ((i + 1 : Nat) : Int) by unfold wrap64; omega, hK]
   unfold rd
   rw [Int.toNat_natCast]
   by_cases h : l.getD i 0 = n
   ·rw [if_pos h, h]; simp
   ·rw [if_neg h, beq_false_of_ne h, Bool.false_or]
 obtain ⟨K, hK⟩ := key l.length 0 (by omega) (by omega)
 exact ⟨K, by simpa [spec_l1Has.f] using hK⟩
set_option maxHeartbeats 8000000 in
set_option maxRecDepth 100000 in
theorem spec_l5Groups.calls (k : Nat) (A0 : Option Addr) (c0 : Nat) (l0 : List (List Int)) (r : List (List Int)) (w : World) (hr0 : Kd.C (Kd.slice 3 (Kd.int .i64)) w A0 l0.length l0) (hc0 : l0.length ≤ c0) (h : spec_l5Groups.f k l0 = some r) :
  Calls Try.prog 51 #[.slice A0 l0.length c0] w fun e w' => ∃ v0_ : Value, e = .returned (v0_) ∧ Kd.S (Kd.slice 3 (Kd.int .i64)) 23 w' w.heap.size (fun _ => True) v0_ r ∧ Below w.heap.size w w' := by
 have hmax0 : l0.length ≤ 9223372036854775807 := hr0.2.1
 have HR0 := Am hr0
 have HC0 := Am hc0
 clear hr0 hc0
 unfold spec_l5Groups.f at h
 cases hg : spec_l5Groups.al k l0 l0.length 0 with
 | none => rw [hg] at h; cases h
 | some all =>
 rw [hg, Option.bind_some] at h
 by_cases hok : spec_l5Groups.ok l0.length all = true
 case neg => rw [if_neg hok] at h; cases h
 rw [if_pos hok] at h
 have hall := spec_l5Groups.al_len k l0 _ _ all hg
 have HG := Am hg
 have HK := Am (spec_l5Groups.okE hok)
 have HS : Ad (spec_l5Groups.gs all l0.length 0 = r) := ⟨Option.some.inj h⟩
 have hn40 : l0.length ≤ 1000 := HK.out.1
 clear hg hok h
 go_enter Try.func51, Try.ntmps51
 go_wp2
 go_loopg [3, 12] l0.length (fun gg v3 v12 wr => ∃ (i : Nat) (pa : List (Hd × List Int)) (rest : List (List Int)), i ≤ l0.length ∧ l0.length - i ≤ gg ∧ v12 = .int .i64 i ∧ Ad (pa.length = i) ∧ Ad (spec_l5Groups.al k l0 (l0.length - i) i = some rest) ∧ Ad (pa.map (·.2) ++ rest = all) ∧ Ad (Kd.Rows (Kd.int .i64) 3 wr w.heap.size pa) ∧ Ad (Kd.hd.R 23 wr w.heap.size (fun _ => True) v3 (pa.map (·.1))) ∧ Ad (Below w.heap.size w wr))
 case atStart => exact ⟨0, [], all, Nat.zero_le _, by omega, by first | rfl | simp, ⟨rfl⟩, HG, ⟨by simp⟩, ⟨Kd.Rows.nil _ _ _ _⟩, ⟨Kd.R_nil _ _ _ _ _⟩, ⟨Below.refl _ _⟩⟩
 case round =>
  clear HG
  obtain ⟨i, pa, rest, hi, hgg, rfl, hpl, HG, HE, HW, HL, HB⟩ := hrel
  obtain ⟨A3, c3, e3⟩ := Kd.R_slice HL.out
  rw [List.length_map] at e3
  subst e3
  by_cases hlt : i < l0.length
  ·have hltz : (i : Int) < (l0.length : Int) := by omega
   have h1 := HG.out
   rw [show l0.length - i = (l0.length - (i + 1)) + 1 by omega, spec_l5Groups.al] at h1
   obtain ⟨x, hx, h1⟩ := Option.bind_eq_some_iff.1 h1
   obtain ⟨rest', hr', rfl⟩ := Option.map_eq_some_iff.1 h1
   have HX := Am hx
   have HG' := Am hr'
   clear h1 hx hr' HG
   go_wp2_with fail
   refine (spec_l5Reached.calls k A0 c0 l0 (i : Int) x wr (Kd.C_below HR0.out HB.out) HC0.out HX.out).mono ?_
   rintro e w2 ⟨vx, rfl, hx2, hb⟩
   obtain ⟨Ax, cx, rfl⟩ := Kd.R_slice hx2
   have HX2 := Am hx2
   have HNE := Am (HW.out.ne_new hx2)
   have HW2 := Am (HW.out.below hb)
   have HL2 := Am (Kd.R_below HL.out hb)
   have HB2 := Am (below_then HB.out HB.out.size hb)
   have hsz := HB.out.size
   have HX3 := Am (Kd.R_lower HX2.out hsz)
   clear hx2 hb hsz HW HL HB HX2
   go_wp2_with (first | ((with_reducible refine gate_builtin (b := .append) (xs := #[.tmp 15, .tmp 19]) rfl ?_); at_builtin; refine Kd.R_append Kd.hd (w0 := w) w.heap.size rfl (.tmp 15) (.tmp 19) 22 23 (.slice none 0 0) 24 rfl Try.underlying22 info23 rfl (by decide) (by omega) (.slice A3 pa.length c3) (pa.map (·.1)) (Ax, x.length, cx) [.slice (Ax) (x.length) (cx)] (fun _ => True) (fun _ => False) rfl rfl ?aP (fun _ hk => hk.elim) ?aF ?aO ?aB ?aS ?aL ?_; (case aP => exact rfl); (case aB => exact HB2.out); (case aF => exact (fun _ _ => trivial)); (case aO => exact HL2.out); (case aS => exact (Bz HB2.out)); (case aL => rw [List.length_map, hpl.out]; omega); intro v3 w3 ho hb hg hat; have HW3 := Am ((HW2.out.snoc (p := ((Ax, x.length, cx), x)) HX3.out (Nat.le_refl _) HNE.out).over HL2.out (by decide) hg); have HL3 := Am ho; have HB3 := Am hb; clear HW2 HL2 HB2 HX3 HNE; clear ho hb hg hat))
   go_roundg (l0.length - (i + 1))
   case measure => omega
   case rel => exact ⟨i + 1, pa ++ [((Ax, x.length, cx), x)], rest', by omega, by omega, by go_num, ⟨by rw [List.length_append, hpl.out]; rfl⟩, HG', ⟨by rw [← HE.out]; simp⟩, HW3, ⟨by have := HL3.out; simpa using this⟩, HB3⟩
  ·obtain rfl : i = l0.length := by omega
   have hltz : ¬ (l0.length : Int) < (l0.length : Int) := by omega
   clear hi hgg hlt
   have HE2 : Ad (pa.map (·.2) = all) := ⟨by
    have h1 := HG.out
    rw [Nat.sub_self, spec_l5Groups.al] at h1
    rw [← HE.out, ← Option.some.inj h1, List.append_nil]⟩
   clear HG HE
   go_wp2
   go_loopg [5, 24] l0.length (fun gg v5 v24 wq => ∃ (i : Nat) (po : List (Hd × List Int)), i ≤ l0.length ∧ l0.length - i ≤ gg ∧ v24 = .int .i64 i ∧ po.length ≤ i ∧ Ad (po.map (·.2) ++ spec_l5Groups.gs all (l0.length - i) i = r) ∧ Ad (Kd.Rows (Kd.int .i64) 3 wq w.heap.size (pa ++ po)) ∧ Ad (Kd.hd.R 23 wq w.heap.size (fun k_ => some k_ ≠ v5.ownBlock) (.slice A3 pa.length c3) (pa.map (·.1))) ∧ Ad (Kd.hd.R 23 wq w.heap.size (fun k_ => some k_ ≠ (Value.slice A3 pa.length c3).ownBlock) v5 (po.map (·.1))) ∧ Ad (Below w.heap.size w wq))
   case atStart => exact ⟨0, [], Nat.zero_le _, by omega, by first | rfl | simp, by simp, ⟨by simpa using HS.out⟩, ⟨by simpa using HW.out⟩, ⟨Kd.R_mono HL.out (fun _ _ => by simp [Value.ownBlock])⟩, ⟨Kd.R_nil _ _ _ _ _⟩, HB⟩
   case round =>
    clear HW HL HB HS
    obtain ⟨i, po, hi, hgg, rfl, hpo, HE, HW, HL, HO, HB⟩ := hrel
    obtain ⟨A5, c5, e5⟩ := Kd.R_slice HO.out
    rw [List.length_map] at e5
    subst e5
    by_cases hlt : i < l0.length
    ·have hltz : (i : Int) < (l0.length : Int) := by omega
     have hltp : i < pa.length := by rw [hpl.out]; exact hlt
     have hltpz : (i : Int) < (pa.length : Int) := by omega
     have h0z : (0 : Int) ≤ (i : Int) := by omega
     obtain ⟨ad3, B, cB, x, rfl, hx, hp, hxe, hxc, hC⟩ := Kd.pair_at HL.out (fun p hp => HW.out.row p (List.mem_append_left _ hp)) i hltp
     rw [HE2.out] at hxe
     have HM : Ad ((((B, x.length, cB), x) : Hd × List Int) ∈ pa) := ⟨List.mem_iff_getElem?.2 ⟨i, hp⟩⟩
     have HXC := Am hxc
     have hxm : x.length ≤ 1000 ∧ ∀ p ∈ x, 0 ≤ p ∧ p < (l0.length : Int) := by
      refine HK.out.2.1 x ?_
      rw [← HE2.out, List.mem_map]
      exact ⟨_, List.mem_iff_getElem?.2 ⟨i, hp⟩, rfl⟩
     have HXM := Am hxm.2
     have hxl : x.length ≤ 1000 := hxm.1
     have HXE := Am hxe
     have hgr : Ad (spec_l5Groups.gr all i = x.filter fun n => Mine.anyP (fun y => y == (i : Int)) (all.getD n.toNat [])) := ⟨by unfold spec_l5Groups.gr; rw [hxe]⟩
     have HGN := Am (HK.out.2.2 i hlt)
     clear hC hxc hxm hxe hp
     go_wp2
     go_loopg [7, 32] x.length (fun gg v7 v32 wz => ∃ (j : Nat) (acc : List Int), j ≤ x.length ∧ x.length - j ≤ gg ∧ v32 = .int .i64 j ∧ acc.length ≤ j ∧ Ad (acc ++ (x.drop j).filter (fun n => Mine.anyP (fun y => y == (i : Int)) (all.getD n.toNat [])) = spec_l5Groups.gr all i) ∧ Ad (Kd.Rows (Kd.int .i64) 3 wz w.heap.size (pa ++ po)) ∧ Ad (∀ p ∈ pa ++ po, NeRow (hdV p.1) v7) ∧ Ad (Kd.hd.R 23 wz w.heap.size (fun k_ => some k_ ≠ (Value.slice A5 po.length c5).ownBlock) (.slice (some ad3) pa.length c3) (pa.map (·.1))) ∧ Ad (Kd.hd.R 23 wz w.heap.size (fun k_ => some k_ ≠ (Value.slice (some ad3) pa.length c3).ownBlock) (.slice A5 po.length c5) (po.map (·.1))) ∧ Ad (Kd.R (Kd.int .i64) 3 wz w.heap.size (fun _ => True) v7 acc) ∧ Ad (Below w.heap.size w wz))
     case atStart => exact ⟨0, [], Nat.zero_le _, by omega, by first | rfl | simp, by simp, ⟨by rw [hgr.out]; simp⟩, HW, ⟨fun p _ => ne_nil' _⟩, HL, HO, ⟨Kd.R_nil _ _ _ _ _⟩, HB⟩
     case round =>
      clear HW HL HO HB hx
      obtain ⟨j, acc, hj, hgg2, rfl, hal, HA, HW, HN, HL, HO, HR, HB⟩ := hrel
      obtain ⟨A7, c7, e7⟩ := Kd.R_slice HR.out
      subst e7
      by_cases hjlt : j < x.length
      ·have hjz : (j : Int) < (x.length : Int) := by omega
       obtain ⟨adx, rfl, hxj⟩ := Kd.at_int (Kd.R_reads' (show Kd.R (Kd.int .i64) 3 wr w.heap.size (fun _ => True) (.slice B x.length cB) x from HW.out.row _ (List.mem_append_left _ HM.out))).2.2 (j : Int) (by omega) hjz
       rw [Int.toNat_natCast, rd, Int.toNat_natCast] at hxj
       have hmem : x.getD j 0 ∈ x := Mine.getD_mem _ _ _ hjlt
       have hdr : x.drop j = x.getD j 0 :: x.drop (j + 1) := Mine.drop_at x 0 j hjlt
       have HDR := Am hdr
       clear hdr
       generalize x.getD j 0 = y at hxj hmem HDR
       obtain ⟨hy0, hy1⟩ := HXM.out y hmem
       obtain ⟨yn, rfl⟩ := Int.eq_ofNat_of_zero_le hy0
       have hyn : yn < pa.length := by rw [hpl.out]; omega
       have hypz : (yn : Int) < (pa.length : Int) := by omega
       have hy0z : (0 : Int) ≤ (yn : Int) := by omega
       obtain ⟨ad3', B2, cB2, z, e3', hz, hpz, hze, hzc, hCz⟩ := Kd.pair_at HL.out (fun p hp => HW.out.row p (List.mem_append_left _ hp)) yn hyn
       injection e3' with e3'
       subst e3'
       rw [HE2.out] at hze
       have HZE := Am hze
       obtain ⟨K, hK⟩ := spec_l5Groups.has z (i : Int) hCz.2.1
       have HKK := Am hK
       have HCz := Am hCz
       have HZC := Am hzc
       clear hmem hpz hze hzc hCz hK hy1
       cases hb : Mine.anyP (fun y => y == (i : Int)) z with
       | true =>
        have HBt := Am hb
        clear hb
        go_wp2_with fail
        refine (spec_l1Has.calls K B2 cB2 z (i : Int) true wr HCz.out HZC.out (by rw [← HBt.out]; exact HKK.out)).mono ?_
        rintro e w2 ⟨rfl, hd⟩
        have hb := hd.below
        have HW2 := Am (HW.out.below hb)
        have HL2 := Am (Kd.R_below HL.out hb)
        have HO2 := Am (Kd.R_below HO.out hb)
        have HR2 := Am (Kd.R_below HR.out hb)
        have HB2 := Am (below_then HB.out HB.out.size hb)
        clear hb hd HW HL HO HR HB HCz hz hxj
        go_wp2_with (first | ((with_reducible refine gate_builtin (b := .append) (xs := #[.tmp 42, .tmp 44]) rfl ?_); at_builtin; refine Kd.R_append (Kd.int .i64) (w0 := w) w.heap.size rfl (.tmp 42) (.tmp 44) 23 3 (.int .i64 0) 8 rfl Try.underlying23 info3 rfl (by decide) (by omega) (.slice A7 acc.length c7) acc (yn : Int) [.int .i64 yn] (fun _ => True) (fun _ => False) rfl rfl ?aP (fun _ hk => hk.elim) ?aF ?aO ?aB ?aS ?aL ?_; (case aP => exact rfl); (case aB => exact HB2.out); (case aF => exact (fun _ _ => trivial)); (case aO => exact HR2.out); (case aS => exact HB2.out.size); (case aL => omega); intro v7 w3 ho hb hg hat; have HR3 := Am ho; have HB3 := Am hb; have HW3 := Am (HW2.out.grown_ne rfl hg HN.out); have HN3 := Am (HW2.out.ne_after HN.out hat); have HL3 := Am (Kd.R_over HL2.out HR2.out (by decide) hg); have HO3 := Am (Kd.R_over HO2.out HR2.out (by decide) hg); clear ho hb hg hat))
        go_roundg (x.length - (j + 1))
        case measure => omega
        case rel => exact ⟨j + 1, acc ++ [(yn : Int)], by omega, by omega, by go_num, by rw [List.length_append]; simp; omega, ⟨by rw [← HA.out, HDR.out, List.filter_cons_of_pos (by rw [Int.toNat_natCast, HZE.out]; exact HBt.out)]; simp⟩, HW3, HN3, HL3, HO3, HR3, HB3⟩
       | false =>
        have HBt := Am hb
        clear hb
        go_wp2_with fail
        refine (spec_l1Has.calls K B2 cB2 z (i : Int) false wr HCz.out HZC.out (by rw [← HBt.out]; exact HKK.out)).mono ?_
        rintro e w2 ⟨rfl, hd⟩
        have hb := hd.below
        have HW2 := Am (HW.out.below hb)
        have HL2 := Am (Kd.R_below HL.out hb)
        have HO2 := Am (Kd.R_below HO.out hb)
        have HR2 := Am (Kd.R_below HR.out hb)
        have HB2 := Am (below_then HB.out HB.out.size hb)
        clear hb hd HW HL HO HR HB HCz hz hxj
        go_wp2
        go_roundg (x.length - (j + 1))
        case measure => omega
        case rel => exact ⟨j + 1, acc, by omega, by omega, by go_num, by omega, ⟨by rw [← HA.out, HDR.out, List.filter_cons_of_neg (by rw [Int.toNat_natCast, HZE.out, HBt.out]; simp)]⟩, HW2, HN, HL2, HO2, HR2, HB2⟩
      ·obtain rfl : j = x.length := by omega
       have hjz : ¬ (x.length : Int) < (x.length : Int) := by omega
       have hE : acc = spec_l5Groups.gr all i := by
        have h1 := HA.out
        rw [List.drop_eq_nil_of_le (Nat.le_refl _), List.filter_nil, List.append_nil] at h1
        exact h1
       have HAE := Am hE
       have hap : 0 < acc.length := List.length_pos_iff.2 (by rw [hE]; exact HGN.out)
       have hapz : (0 : Int) < (acc.length : Int) := by omega
       obtain ⟨ad7, rfl, h70⟩ := Kd.at_int (Kd.R_reads' HR.out).2.2 0 (by omega) hapz
       have h70 : wr.cell? ad7 = some (.int .i64 (acc.getD 0 0)) := by rw [show ((0 : Int)).toNat = 0 from rfl, Addr.add_zero'] at h70; exact h70
       clear hE HA
       have HSTEP : Ad (spec_l5Groups.gs all (l0.length - i) i = if acc.getD 0 0 = (i : Int) then acc :: spec_l5Groups.gs all (l0.length - (i + 1)) (i + 1) else spec_l5Groups.gs all (l0.length - (i + 1)) (i + 1)) := ⟨by rw [show l0.length - i = (l0.length - (i + 1)) + 1 by omega, spec_l5Groups.gs, HAE.out]⟩
       generalize acc.getD 0 0 = y0 at h70 HSTEP
       by_cases hy : y0 = (i : Int)
       ·have hyb : (y0 == (i : Int)) = true := beq_iff_eq.2 hy
        have HSTEP2 : Ad (spec_l5Groups.gs all (l0.length - i) i = acc :: spec_l5Groups.gs all (l0.length - (i + 1)) (i + 1)) := ⟨by rw [HSTEP.out, if_pos hy]⟩
        clear hy HSTEP
        go_wp2_with (first | ((with_reducible refine gate_builtin (b := .append) (xs := #[.tmp 52, .tmp 54]) rfl ?_); at_builtin; refine Kd.R_append Kd.hd (w0 := w) w.heap.size rfl (.tmp 52) (.tmp 54) 22 23 (.slice none 0 0) 24 rfl Try.underlying22 info23 rfl (by decide) (by omega) (.slice A5 po.length c5) (po.map (·.1)) (some ad7, acc.length, c7) [.slice (some ad7) (acc.length) (c7)] (fun k_ => some k_ ≠ (Value.slice (some ad3) pa.length c3).ownBlock) (fun _ => False) rfl rfl ?aP (fun _ hk => hk.elim) ?aF ?aO ?aB ?aS ?aL ?_; (case aP => exact rfl); (case aB => exact HB.out); (case aF => exact (fun k_ hk => Kd.fresh' (Kd.R_lt HL.out) k_ hk)); (case aO => exact HO.out); (case aS => exact (Bz HB.out)); (case aL => rw [List.length_map]; omega); intro v5 w3 ho hb hg hat; have HW3 := Am (Kd.Rows.over (HW.out.snoc (p := ((some ad7, acc.length, c7), acc)) HR.out (Nat.le_refl _) HN.out) HO.out (by decide) hg); have HL3 := Am (Kd.R_after (ok := fun _ => True) (Kd.R_mono HL.out (fun _ hk => ⟨trivial, hk⟩)) hg hat); have HO3 := Am ho; have HB3 := Am hb; clear HW HL HO HB; clear ho hb hg hat))
        go_roundg (l0.length - (i + 1))
        case measure => omega
        case rel => exact ⟨i + 1, po ++ [((some ad7, acc.length, c7), acc)], by omega, by omega, by go_num, by rw [List.length_append]; simp; omega, ⟨by rw [← HE.out, HSTEP2.out]; simp⟩, ⟨by have := HW3.out; simpa [List.append_assoc] using this⟩, ⟨Kd.R_mono HL3.out (fun _ hk => hk.2)⟩, ⟨by have := HO3.out; simpa using this⟩, HB3⟩
       ·have hyb : (y0 == (i : Int)) = false := beq_false_of_ne hy
        have HSTEP2 : Ad (spec_l5Groups.gs all (l0.length - i) i = spec_l5Groups.gs all (l0.length - (i + 1)) (i + 1)) := ⟨by rw [HSTEP.out, if_neg hy]⟩
        clear hy HSTEP
        go_wp2
        go_roundg (l0.length - (i + 1))
        case measure => omega
        case rel => exact ⟨i + 1, po, by omega, by omega, by go_num, by omega, ⟨by rw [← HE.out, HSTEP2.out]⟩, HW, HL, HO, HB⟩
    ·obtain rfl : i = l0.length := by omega
     have hltz : ¬ (l0.length : Int) < (l0.length : Int) := by omega
     have he : Ad (po.map (·.2) = r) := ⟨by rw [← HE.out, Nat.sub_self]; simp [spec_l5Groups.gs]⟩
     go_wp2
     go_ret
     refine ⟨_, rfl, ?_, HB.out⟩
     rw [← he.out]
     exact Kd.rows_S (Kd.R_mono HO.out (fun _ _ => trivial)) (HW.out.sub (List.sublist_append_right _ _)) rfl (by decide)
end Go.Proofs.Ytpboalgecejoeaa.QFnComponents
