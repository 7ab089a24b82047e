-- Written by a program of this session (wip/mk.py) over the kit's print: Lean checks it.
import Derived.Test.YtilmcfdhijdhpaaQFnAttrForx0
import Derived.Test.YtilmcfdhijdhpaaQFnAttrForx2
import Derived.Test.YtilmcfdhijdhpaaQFnAttrForx5
import Derived.Test.YtilmcfdhijdhpaaQFnAttrForx6
import Derived.Test.YtilmcfdhijdhpaaQFnAttrForx8
import Derived.Test.YtilmcfdhijdhpaaQFnAttrForx9
import Derived.Test.YtilmcfdhijdhpaaQFnAttrForx13
namespace Go.Proofs.Ytilmcfdhijdhpaa.QFnAttrFor
open Go.Proofs.YtilmcfdhijdhpaaW.PrintWords renaming below_alloc → Ba, pw_below_drewN → Bn, below_drew1 → Bd, below_set → Bs, below_size → Bz, below_step → Bt, gate_dst → Gd, gate_callee → Gc, box_event → Be, blk_alloc → Ka, blk_drewN → Kn, blk_drew → Ke, blk_below → Kb, blk_cell → Kc, blk_frozen → Kz
open Go.World renaming block_lt_of_cell? → bl_
open Go.Proofs.YtilmcfdhijdhpaaW.PrintWords.Aside0 renaming mk → Am
open Go.Proofs.YtilmcfdhijdhpaaW.PrintWords renaming Aside0 → Ad
open Go.RowKit Go.Proofs.YtilmcfdhijdhpaaW.PrintWords Go.Proofs.YtilmcfdhijdhpaaW.PrintLast Go.Proofs.YtilmcfdhijdhpaaW.PrintMore
attribute [local go_sem] max2_int min2_int max_two min_two max_three min_three max_four min_four   -- for this text's walks alone
set_option linter.unusedVariables false
set_option linter.unusedSimpArgs false
def laws_sameInts.l0 : Nat → List Int → List Int → Int → Int → Option (Bool)
 | 0, _, _, _, _ => none
 | k + 1, x0, x1, x12, x13 => if x13 < x12 then (if 0 ≤ x13 then (if x13 < (x0.length : Int) then (if x13 < (x1.length : Int) then (if (rd x0 x13) = (rd x1 x13) then (laws_sameInts.l0 k x0 x1 x12 (wrap64 (x13 + 1))) else (some false)) else (none)) else (none)) else (none)) else (some true)
def laws_sameInts.f (k : Nat) (l0 : List Int) (l1 : List Int) : Option (Bool) := if (l0.length : Int) = (l1.length : Int) then (laws_sameInts.l0 k l0 l1 (l0.length : Int) 0) else (some false)
theorem laws_sameInts.mono_l : ∀ k, (∀ y0 y1 y2 y3, LeO (laws_sameInts.l0 k y0 y1 y2 y3) (laws_sameInts.l0 (k + 1) y0 y1 y2 y3))
 | 0 => fun _ _ _ _ r h => by simp [laws_sameInts.l0] at h
 | k + 1 => by
  have ih0 := laws_sameInts.mono_l k
  ·intro y0 y1 y2 y3
   unfold laws_sameInts.l0
   repeat' first
   | (with_reducible exact ih0 _ _ _ _)
   | (with_reducible exact LeO.refl _)
   | (with_reducible exact LeO.none _)
   | (with_reducible refine LeO.ite ?_ ?_)
   | (with_reducible refine LeO.bind ?_ (fun _ => ?_))
   | exact ih0 _ _ _ _
   | exact LeO.none _
   | refine LeO.ite ?_ ?_
   | refine LeO.bind ?_ (fun _ => ?_)
theorem laws_sameInts.mono : ∀ a0 a1 k, LeO (laws_sameInts.f k a0 a1) (laws_sameInts.f (k + 1) a0 a1) := by
 intro a0 a1 k
 have ih0 := laws_sameInts.mono_l k
 unfold laws_sameInts.f
 repeat' first
   | (with_reducible exact ih0 _ _ _ _)
   | (with_reducible exact LeO.refl _)
   | (with_reducible exact LeO.none _)
   | (with_reducible refine LeO.ite ?_ ?_)
   | (with_reducible refine LeO.bind ?_ (fun _ => ?_))
   | exact ih0 _ _ _ _
   | exact LeO.none _
   | refine LeO.ite ?_ ?_
   | refine LeO.bind ?_ (fun _ => ?_)
set_option maxHeartbeats 8000000 in
set_option maxRecDepth 100000 in
theorem laws_sameInts.calls (k : Nat) (A0 : Option Addr) (c0 : Nat) (l0 : List Int) (A1 : Option Addr) (c1 : Nat) (l1 : List Int) (r : Bool) (w : World) (hr0 : Kd.C (Kd.int .i64) w A0 l0.length l0) (hc0 : l0.length ≤ c0) (hr1 : Kd.C (Kd.int .i64) w A1 l1.length l1) (hc1 : l1.length ≤ c1) (h : laws_sameInts.f k l0 l1 = some r) :
  Calls Try.prog 27 #[.slice A0 l0.length c0, .slice A1 l1.length c1] w fun e w' => e = .returned (.bool r) ∧ Drawn0 w w' := by
 have HR0 := Am hr0
 have HC0 := Am hc0
 clear hr0 hc0
 have HR1 := Am hr1
 have HC1 := Am hc1
 clear hr1 hc1
 have H : (if (l0.length : Int) = (l1.length : Int) then (laws_sameInts.l0 k l0 l1 (l0.length : Int) 0) else (some false)) = some r := h
 clear h
 by_cases c3 : (l0.length : Int) = (l1.length : Int)
 ·rw [if_pos c3] at H
  have c3b0 : ((l0.length : Int) == (l1.length : Int)) = true := beq_iff_eq.mpr c3
  have c3b1 : ((l0.length : Int) != (l1.length : Int)) = false := bne_eq_false_iff_eq.mpr c3
  have c3b2 : (l0.length == l1.length) = true := by first | simpa using c3 | (simp at c3 ⊢; omega)
  clear c3
  have H' := Am H
  clear H
  go_enter Try.func27, Try.ntmps27
  go_wp2
  repeat (go_quiet (fail); try go_wp2)
  go_loopg [13] k (fun kq v13 w' => ∃ (x13_1 : Int), v13 = .int .i64 x13_1 ∧ Ad (laws_sameInts.l0 kq l0 l1 (l0.length : Int) x13_1 = some r) ∧ Ad (kq ≤ k) ∧ Drawn0 w w')
  case atStart => exact ⟨(0), (by first | rfl | (simp; done) | (simp [*]; done)), H', ⟨Nat.le_refl _⟩, by repeat (first | exact Drawn0.refl _ | apply Drawn0.step)⟩
  case round =>
   clear H'
   try clear c1
   try clear c2
   try clear p2
   try clear c3
   try clear c3b0
   try clear c3b1
   try clear c3b2
   obtain ⟨x13_1, rfl, HA, HK1, ⟨m1, rfl⟩⟩ := hrel
   cases gk with
   | zero => exact absurd HA.out (by simp [laws_sameInts.l0])
   | succ k1 =>
    have H := HA.out
    clear HA
    simp only [laws_sameInts.l0] at H
    by_cases c4 : x13_1 < (l0.length : Int)
    ·rw [if_pos c4] at H
     have c4b0 : decide (x13_1 < (l0.length : Int)) = true := decide_eq_true c4
     clear c4
     by_cases c5 : 0 ≤ x13_1
     ·rw [if_pos c5] at H
      have c5b0 : decide (0 ≤ x13_1) = true := decide_eq_true c5
      clear c5
      by_cases c6 : x13_1 < (l0.length : Int)
      ·rw [if_pos c6] at H
       have c6b0 : decide (x13_1 < (l0.length : Int)) = true := decide_eq_true c6
       clear c6
       by_cases c7 : x13_1 < (l1.length : Int)
       ·rw [if_pos c7] at H
        have c7b0 : decide (x13_1 < (l1.length : Int)) = true := decide_eq_true c7
        clear c7
        by_cases c8 : (rd l0 x13_1) = (rd l1 x13_1)
        ·rw [if_pos c8] at H
         have c8b0 : ((rd l0 x13_1) == (rd l1 x13_1)) = true := beq_iff_eq.mpr c8
         have c8b1 : ((rd l0 x13_1) != (rd l1 x13_1)) = false := bne_eq_false_iff_eq.mpr c8
         clear c8
         have H' := Am H
         clear H
         have p396 : 0 ≤ (x13_1 : Int) := of_decide_eq_true (by assumption)
         have q396 : x13_1 < (l0.length : Int) := of_decide_eq_true (by assumption)
         obtain ⟨ad396, e396, hx396_0⟩ := Kd.at_int HR0.out x13_1 p396 q396
         cases e396
         replace p396 := eq_true p396
         replace q396 := eq_true q396
         have p397 : 0 ≤ (x13_1 : Int) := of_decide_eq_true (by assumption)
         have q397 : x13_1 < (l1.length : Int) := of_decide_eq_true (by assumption)
         obtain ⟨ad397, e397, hx397_0⟩ := Kd.at_int HR1.out x13_1 p397 q397
         cases e397
         replace p397 := eq_true p397
         replace q397 := eq_true q397
         go_wp2
         repeat (go_quiet (fail); try go_wp2)
         go_roundg k1
         case measure => have := HK1.out; omega
         case rel => exact ⟨(wrap64 (x13_1 + 1)), (by first | rfl | (simp; done) | (simp [*]; done)), H', ⟨by have := HK1.out; omega⟩, by repeat (first | exact Drawn0.refl _ | apply Drawn0.step)⟩
        ·rw [if_neg c8] at H
         have c8b0 : ((rd l0 x13_1) == (rd l1 x13_1)) = false := beq_eq_false_iff_ne.mpr c8
         have c8b1 : ((rd l0 x13_1) != (rd l1 x13_1)) = true := bne_iff_ne.mpr c8
         obtain rfl := Option.some.inj H
         have p396 : 0 ≤ (x13_1 : Int) := of_decide_eq_true (by assumption)
         have q396 : x13_1 < (l0.length : Int) := of_decide_eq_true (by assumption)
         obtain ⟨ad396, e396, hx396_0⟩ := Kd.at_int HR0.out x13_1 p396 q396
         cases e396
         replace p396 := eq_true p396
         replace q396 := eq_true q396
         have p397 : 0 ≤ (x13_1 : Int) := of_decide_eq_true (by assumption)
         have q397 : x13_1 < (l1.length : Int) := of_decide_eq_true (by assumption)
         obtain ⟨ad397, e397, hx397_0⟩ := Kd.at_int HR1.out x13_1 p397 q397
         cases e397
         replace p397 := eq_true p397
         replace q397 := eq_true q397
         go_wp2
         repeat (go_quiet (fail); try go_wp2)
         go_ret
         exact ⟨by first | rfl | (simp; done) | (simp [*]; done), by repeat (first | exact Drawn0.refl _ | apply Drawn0.step)⟩
       ·rw [if_neg c7] at H
        exact absurd H (by simp)
      ·rw [if_neg c6] at H
       exact absurd H (by simp)
     ·rw [if_neg c5] at H
      exact absurd H (by simp)
    ·rw [if_neg c4] at H
     have c4b0 : decide (x13_1 < (l0.length : Int)) = false := decide_eq_false c4
     clear c4
     obtain rfl := Option.some.inj H
     go_wp2
     repeat (go_quiet (fail); try go_wp2)
     go_ret
     exact ⟨by first | rfl | (simp; done) | (simp [*]; done), by repeat (first | exact Drawn0.refl _ | apply Drawn0.step)⟩
 ·rw [if_neg c3] at H
  have c3b0 : ((l0.length : Int) == (l1.length : Int)) = false := beq_eq_false_iff_ne.mpr c3
  have c3b1 : ((l0.length : Int) != (l1.length : Int)) = true := bne_iff_ne.mpr c3
  have c3b2 : (l0.length == l1.length) = false := by first | simpa using c3 | (simp at c3 ⊢; omega)
  obtain rfl := Option.some.inj H
  go_enter Try.func27, Try.ntmps27
  go_wp2
  repeat (go_quiet (fail); try go_wp2)
  go_ret
  exact ⟨by first | rfl | (simp; done) | (simp [*]; done), by repeat (first | exact Drawn0.refl _ | apply Drawn0.step)⟩
def laws_sameAttr.f (k : Nat) (a0_0 : Int) (l0_1 : List Int) (a1_0 : Int) (l1_1 : List Int) : Option (Bool) := if a0_0 = a1_0 then ((laws_sameInts.f k l0_1 l1_1).bind fun t400 => (some t400)) else (some false)
theorem laws_sameAttr.mono : ∀ a0 a1 a2 a3 k, LeO (laws_sameAttr.f k a0 a1 a2 a3) (laws_sameAttr.f (k + 1) a0 a1 a2 a3) := by
 intro a0 a1 a2 a3 k
 unfold laws_sameAttr.f
 repeat' first
   | (with_reducible exact laws_sameInts.mono _ _ _)
   | (with_reducible exact LeO.refl _)
   | (with_reducible exact LeO.none _)
   | (with_reducible refine LeO.ite ?_ ?_)
   | (with_reducible refine LeO.bind ?_ (fun _ => ?_))
   | exact laws_sameInts.mono _ _ _
   | exact LeO.none _
   | refine LeO.ite ?_ ?_
   | refine LeO.bind ?_ (fun _ => ?_)
set_option maxHeartbeats 8000000 in
set_option maxRecDepth 100000 in
theorem laws_sameAttr.calls (k : Nat) (a0_0 : Int) (A0_1 : Option Addr) (c0_1 : Nat) (l0_1 : List Int) (a1_0 : Int) (A1_1 : Option Addr) (c1_1 : Nat) (l1_1 : List Int) (r : Bool) (w : World) (hr0_1 : Kd.C (Kd.int .i64) w A0_1 l0_1.length l0_1) (hc0_1 : l0_1.length ≤ c0_1) (hr1_1 : Kd.C (Kd.int .i64) w A1_1 l1_1.length l1_1) (hc1_1 : l1_1.length ≤ c1_1) (h : laws_sameAttr.f k a0_0 l0_1 a1_0 l1_1 = some r) :
  Calls Try.prog 9 #[.agg #[.int .i64 a0_0, .slice A0_1 l0_1.length c0_1], .agg #[.int .i64 a1_0, .slice A1_1 l1_1.length c1_1]] w fun e w' => e = .returned (.bool r) ∧ Below w.heap.size w w' := by
 have hu33 := Try.underlying33
 have HR0_1 := Am hr0_1
 have HC0_1 := Am hc0_1
 clear hr0_1 hc0_1
 have HR1_1 := Am hr1_1
 have HC1_1 := Am hc1_1
 clear hr1_1 hc1_1
 have HB := Am (Below.refl w.heap.size w)
 have H : (if a0_0 = a1_0 then ((laws_sameInts.f k l0_1 l1_1).bind fun t400 => (some t400)) else (some false)) = some r := h
 clear h
 by_cases c3 : a0_0 = a1_0
 ·rw [if_pos c3] at H
  have c3b0 : (a0_0 == a1_0) = true := beq_iff_eq.mpr c3
  have c3b1 : (a0_0 != a1_0) = false := bne_eq_false_iff_eq.mpr c3
  clear c3
  replace H := Option.bind_eq_some_iff.mp H
  obtain ⟨t400, A40, H⟩ := H
  replace H : (some t400) = some r := H
  have A4 := Am A40
  clear A40
  obtain rfl := Option.some.inj H
  go_enter Try.func9, Try.ntmps9
  go_wp2_with (first | ((refine Gd (N := 2) rfl ?_); refine Be ?hg (N := 2) ?hd (cs := #[.int .i64 a0_0, .slice A0_1 l0_1.length c0_1]) (t := 33) ?hr ?_; (case hd | hg => rfl); (case hr => first | (go_simp; done) | (go_simp; rfl)); intro gb398 hg w5 hbox hb; have n0_ := Am (Bt (by repeat (first | exact HB.out | apply Ba | apply Bn | apply Bd)) hb); have n1_ := Am (hbox); have n2_ := Am ((by rw [hg]; exact (Bz (by repeat (first | exact HB.out | apply Ba | apply Bn | apply Bd))) : w.heap.size ≤ gb398)); have n3_ := Am ((by rw [hg]; exact (Bz (by repeat (first | exact HB.out | apply Ba | apply Bn | apply Bd))) : w.heap.size ≤ gb398)); clear HB; have HB := n0_; have BK398 := n1_; have GW398 := n2_; have GE398 := n3_; clear n0_ n1_ n2_ n3_; clear hb hbox hg) | ((refine Gd (N := 3) rfl ?_); refine Be ?hg (N := 3) ?hd (cs := #[.int .i64 a1_0, .slice A1_1 l1_1.length c1_1]) (t := 33) ?hr ?_; (case hd | hg => rfl); (case hr => first | (go_simp; done) | (go_simp; rfl)); intro gb399 hg w6 hbox hb; have n0_ := Am (Kb (g := gb398) (o := .cells #[.int .i64 a0_0, .slice A0_1 l0_1.length c0_1] 33 (0, 0)) (by (with_reducible repeat (first | refine Kn ?_ _ | refine Ke ?_ | refine Ka ?_ _)); exact BK398.out) hb); have n1_ := Am (Bt (by repeat (first | (with_reducible first | exact HB.out | apply Ba | apply Bn | apply Bd | refine Bs ?_ GE398.out) | exact HB.out)) hb); have n2_ := Am (hbox); have n3_ := Am ((by rw [hg]; exact (Bz (by repeat (first | (with_reducible first | exact HB.out | apply Ba | apply Bn | apply Bd | refine Bs ?_ GE398.out) | exact HB.out))) : w.heap.size ≤ gb399)); have n4_ := Am ((by rw [hg]; exact (Bz (by repeat (first | (with_reducible first | exact HB.out | apply Ba | apply Bn | apply Bd | refine Bs ?_ GE398.out) | exact HB.out))) : w.heap.size ≤ gb399)); have n5_ := Am ((by rw [hg]; exact Nat.ne_of_lt (blk_lt (g := gb398) (o := .cells #[.int .i64 a0_0, .slice A0_1 l0_1.length c0_1] 33 (0, 0)) (by (with_reducible repeat (first | refine Kn ?_ _ | refine Ke ?_ | refine Ka ?_ _)); exact BK398.out)) : gb398 ≠ gb399)); have n6_ := Am ((by rw [hg]; exact Nat.ne_of_gt (blk_lt (g := gb398) (o := .cells #[.int .i64 a0_0, .slice A0_1 l0_1.length c0_1] 33 (0, 0)) (by (with_reducible repeat (first | refine Kn ?_ _ | refine Ke ?_ | refine Ka ?_ _)); exact BK398.out)) : gb399 ≠ gb398)); clear BK398; clear HB; have BK398 := n0_; have HB := n1_; have BK399 := n2_; have GW399 := n3_; have GE399 := n4_; have NB398_399 := n5_; have NB399_398 := n6_; clear n0_ n1_ n2_ n3_ n4_ n5_ n6_; clear hb hbox hg; have hnb7 := NB398_399.out; have hnc7 := NB399_398.out; have hcz8_0 : w6.cell? ⟨gb398, 0, none⟩ = some (.int .i64 a0_0) := (Kc BK398.out 0).trans rfl; have hcz8_1 : w6.cell? ⟨gb398, 1, none⟩ = some (.slice A0_1 l0_1.length c0_1) := (Kc BK398.out 1).trans rfl; have hfz8_0 := Kz BK398.out 0; have hfz8_1 := Kz BK398.out 1; have hcz9_0 : w6.cell? ⟨gb399, 0, none⟩ = some (.int .i64 a1_0) := (Kc BK399.out 0).trans rfl; have hcz9_1 : w6.cell? ⟨gb399, 1, none⟩ = some (.slice A1_1 l1_1.length c1_1) := (Kc BK399.out 1).trans rfl; have hfz9_0 := Kz BK399.out 0; have hfz9_1 := Kz BK399.out 1) | (go_at_call 27; (with_reducible refine (laws_sameInts.calls k _ _ l0_1 _ _ l1_1 t400 _ ?side1 ?side2 ?side3 ?side4 A4.out).mono ?_); (case side1 => repeat (first | exact (Kd.C_below HR0_1.out HB.out) | (with_reducible refine Kd.C_alloc ?_ _) | (with_reducible refine Kd.C_drewN ?_ _) | (with_reducible refine Kd.C_drew ?_))); (case side2 => exact HC0_1.out); (case side3 => repeat (first | exact (Kd.C_below HR1_1.out HB.out) | (with_reducible refine Kd.C_alloc ?_ _) | (with_reducible refine Kd.C_drewN ?_ _) | (with_reducible refine Kd.C_drew ?_))); (case side4 => exact HC1_1.out); rintro e w' ⟨rfl, ⟨nd, rfl⟩⟩))
  go_ret
  exact ⟨by first | rfl | (simp [*, errW_none, errW_some] <;> rfl), by repeat (first | (with_reducible first | exact HB.out | apply Ba | apply Bn | apply Bd | refine Bs ?_ GE398.out | refine Bs ?_ GE399.out) | exact HB.out)⟩
 ·rw [if_neg c3] at H
  have c3b0 : (a0_0 == a1_0) = false := beq_eq_false_iff_ne.mpr c3
  have c3b1 : (a0_0 != a1_0) = true := bne_iff_ne.mpr c3
  obtain rfl := Option.some.inj H
  go_enter Try.func9, Try.ntmps9
  go_wp2_with (first | ((refine Gd (N := 2) rfl ?_); refine Be ?hg (N := 2) ?hd (cs := #[.int .i64 a0_0, .slice A0_1 l0_1.length c0_1]) (t := 33) ?hr ?_; (case hd | hg => rfl); (case hr => first | (go_simp; done) | (go_simp; rfl)); intro gb398 hg w10 hbox hb; have n0_ := Am (Bt (by repeat (first | exact HB.out | apply Ba | apply Bn | apply Bd)) hb); have n1_ := Am (hbox); have n2_ := Am ((by rw [hg]; exact (Bz (by repeat (first | exact HB.out | apply Ba | apply Bn | apply Bd))) : w.heap.size ≤ gb398)); have n3_ := Am ((by rw [hg]; exact (Bz (by repeat (first | exact HB.out | apply Ba | apply Bn | apply Bd))) : w.heap.size ≤ gb398)); clear HB; have HB := n0_; have BK398 := n1_; have GW398 := n2_; have GE398 := n3_; clear n0_ n1_ n2_ n3_; clear hb hbox hg) | ((refine Gd (N := 3) rfl ?_); refine Be ?hg (N := 3) ?hd (cs := #[.int .i64 a1_0, .slice A1_1 l1_1.length c1_1]) (t := 33) ?hr ?_; (case hd | hg => rfl); (case hr => first | (go_simp; done) | (go_simp; rfl)); intro gb399 hg w11 hbox hb; have n0_ := Am (Kb (g := gb398) (o := .cells #[.int .i64 a0_0, .slice A0_1 l0_1.length c0_1] 33 (0, 0)) (by (with_reducible repeat (first | refine Kn ?_ _ | refine Ke ?_ | refine Ka ?_ _)); exact BK398.out) hb); have n1_ := Am (Bt (by repeat (first | (with_reducible first | exact HB.out | apply Ba | apply Bn | apply Bd | refine Bs ?_ GE398.out) | exact HB.out)) hb); have n2_ := Am (hbox); have n3_ := Am ((by rw [hg]; exact (Bz (by repeat (first | (with_reducible first | exact HB.out | apply Ba | apply Bn | apply Bd | refine Bs ?_ GE398.out) | exact HB.out))) : w.heap.size ≤ gb399)); have n4_ := Am ((by rw [hg]; exact (Bz (by repeat (first | (with_reducible first | exact HB.out | apply Ba | apply Bn | apply Bd | refine Bs ?_ GE398.out) | exact HB.out))) : w.heap.size ≤ gb399)); have n5_ := Am ((by rw [hg]; exact Nat.ne_of_lt (blk_lt (g := gb398) (o := .cells #[.int .i64 a0_0, .slice A0_1 l0_1.length c0_1] 33 (0, 0)) (by (with_reducible repeat (first | refine Kn ?_ _ | refine Ke ?_ | refine Ka ?_ _)); exact BK398.out)) : gb398 ≠ gb399)); have n6_ := Am ((by rw [hg]; exact Nat.ne_of_gt (blk_lt (g := gb398) (o := .cells #[.int .i64 a0_0, .slice A0_1 l0_1.length c0_1] 33 (0, 0)) (by (with_reducible repeat (first | refine Kn ?_ _ | refine Ke ?_ | refine Ka ?_ _)); exact BK398.out)) : gb399 ≠ gb398)); clear BK398; clear HB; have BK398 := n0_; have HB := n1_; have BK399 := n2_; have GW399 := n3_; have GE399 := n4_; have NB398_399 := n5_; have NB399_398 := n6_; clear n0_ n1_ n2_ n3_ n4_ n5_ n6_; clear hb hbox hg; have hnb12 := NB398_399.out; have hnc12 := NB399_398.out; have hcz13_0 : w11.cell? ⟨gb398, 0, none⟩ = some (.int .i64 a0_0) := (Kc BK398.out 0).trans rfl; have hcz13_1 : w11.cell? ⟨gb398, 1, none⟩ = some (.slice A0_1 l0_1.length c0_1) := (Kc BK398.out 1).trans rfl; have hfz13_0 := Kz BK398.out 0; have hfz13_1 := Kz BK398.out 1; have hcz14_0 : w11.cell? ⟨gb399, 0, none⟩ = some (.int .i64 a1_0) := (Kc BK399.out 0).trans rfl; have hcz14_1 : w11.cell? ⟨gb399, 1, none⟩ = some (.slice A1_1 l1_1.length c1_1) := (Kc BK399.out 1).trans rfl; have hfz14_0 := Kz BK399.out 0; have hfz14_1 := Kz BK399.out 1))
  go_ret
  exact ⟨by first | rfl | (simp [*, errW_none, errW_some] <;> rfl), by repeat (first | (with_reducible first | exact HB.out | apply Ba | apply Bn | apply Bd | refine Bs ?_ GE398.out | refine Bs ?_ GE399.out) | exact HB.out)⟩
def impl_Interfere.f (k : Nat) (a0_0 : Int) (a0_1 : Int) (a0_2 : Int) (a0_3 : Int) (a0_4 : Int) (a1_0 : Int) (a1_1 : Int) (a1_2 : Int) (a1_3 : Int) (a1_4 : Int) : Option (Bool × Bool) := (impl_GoodCmd.f a0_0 a0_1 a0_2 a0_3 a0_4).bind fun t403 => (if t403 = true then ((impl_GoodCmd.f a1_0 a1_1 a1_2 a1_3 a1_4).bind fun t404 => (if t404 = true then ((impl_interfere.f k a0_0 a0_1 a0_2 a0_3 a0_4 a1_0 a1_1 a1_2 a1_3 a1_4).bind fun t405 => (some (t405, true))) else (some (false, false)))) else (some (false, false)))
theorem impl_Interfere.mono : ∀ a0 a1 a2 a3 a4 a5 a6 a7 a8 a9 k, LeO (impl_Interfere.f k a0 a1 a2 a3 a4 a5 a6 a7 a8 a9) (impl_Interfere.f (k + 1) a0 a1 a2 a3 a4 a5 a6 a7 a8 a9) := by
 intro a0 a1 a2 a3 a4 a5 a6 a7 a8 a9 k
 unfold impl_Interfere.f
 repeat' first
   | (with_reducible exact impl_interfere.mono _ _ _ _ _ _ _ _ _ _ _)
   | (with_reducible exact LeO.refl _)
   | (with_reducible exact LeO.none _)
   | (with_reducible refine LeO.ite ?_ ?_)
   | (with_reducible refine LeO.bind ?_ (fun _ => ?_))
   | exact impl_interfere.mono _ _ _ _ _ _ _ _ _ _ _
   | exact LeO.none _
   | refine LeO.ite ?_ ?_
   | refine LeO.bind ?_ (fun _ => ?_)
set_option maxHeartbeats 8000000 in
set_option maxRecDepth 100000 in
theorem impl_Interfere.calls (k : Nat) (a0_0 : Int) (a0_1 : Int) (a0_2 : Int) (a0_3 : Int) (a0_4 : Int) (a1_0 : Int) (a1_1 : Int) (a1_2 : Int) (a1_3 : Int) (a1_4 : Int) (r1 : Bool) (r2 : Bool) (w : World) (h : impl_Interfere.f k a0_0 a0_1 a0_2 a0_3 a0_4 a1_0 a1_1 a1_2 a1_3 a1_4 = some (r1, r2)) :
  Calls Try.prog 10 #[.agg #[.int .i64 a0_0, .int .i64 a0_1, .int .i64 a0_2, .int .i64 a0_3, .int .i64 a0_4], .agg #[.int .i64 a1_0, .int .i64 a1_1, .int .i64 a1_2, .int .i64 a1_3, .int .i64 a1_4]] w fun e w' => e = .returned (.tuple #[.bool r1, .bool r2]) ∧ Below w.heap.size w w' := by
 have hu28 := Try.underlying28
 have HB := Am (Below.refl w.heap.size w)
 have H : ((impl_GoodCmd.f a0_0 a0_1 a0_2 a0_3 a0_4).bind fun t403 => (if t403 = true then ((impl_GoodCmd.f a1_0 a1_1 a1_2 a1_3 a1_4).bind fun t404 => (if t404 = true then ((impl_interfere.f k a0_0 a0_1 a0_2 a0_3 a0_4 a1_0 a1_1 a1_2 a1_3 a1_4).bind fun t405 => (some (t405, true))) else (some (false, false)))) else (some (false, false)))) = some (r1, r2) := h
 clear h
 replace H := Option.bind_eq_some_iff.mp H
 obtain ⟨t403, A30, H⟩ := H
 replace H : (if t403 = true then ((impl_GoodCmd.f a1_0 a1_1 a1_2 a1_3 a1_4).bind fun t404 => (if t404 = true then ((impl_interfere.f k a0_0 a0_1 a0_2 a0_3 a0_4 a1_0 a1_1 a1_2 a1_3 a1_4).bind fun t405 => (some (t405, true))) else (some (false, false)))) else (some (false, false))) = some (r1, r2) := H
 have A3 := Am A30
 clear A30
 by_cases c4 : t403 = true
 ·subst c4
  have H1 : ((impl_GoodCmd.f a1_0 a1_1 a1_2 a1_3 a1_4).bind fun t404 => (if t404 = true then ((impl_interfere.f k a0_0 a0_1 a0_2 a0_3 a0_4 a1_0 a1_1 a1_2 a1_3 a1_4).bind fun t405 => (some (t405, true))) else (some (false, false)))) = some (r1, r2) := by rw [if_pos rfl] at H; exact H
  clear H
  have H := H1
  clear H1
  replace H := Option.bind_eq_some_iff.mp H
  obtain ⟨t404, A50, H⟩ := H
  replace H : (if t404 = true then ((impl_interfere.f k a0_0 a0_1 a0_2 a0_3 a0_4 a1_0 a1_1 a1_2 a1_3 a1_4).bind fun t405 => (some (t405, true))) else (some (false, false))) = some (r1, r2) := H
  have A5 := Am A50
  clear A50
  by_cases c6 : t404 = true
  ·subst c6
   have H1 : ((impl_interfere.f k a0_0 a0_1 a0_2 a0_3 a0_4 a1_0 a1_1 a1_2 a1_3 a1_4).bind fun t405 => (some (t405, true))) = some (r1, r2) := by rw [if_pos rfl] at H; exact H
   clear H
   have H := H1
   clear H1
   replace H := Option.bind_eq_some_iff.mp H
   obtain ⟨t405, A70, H⟩ := H
   replace H : (some (t405, true)) = some (r1, r2) := H
   have A7 := Am A70
   clear A70
   simp only [Option.some.injEq, Prod.mk.injEq] at H
   obtain ⟨rfl, rfl⟩ := H
   go_enter Try.func10, Try.ntmps10
   go_wp2_with (first | ((refine Gd (N := 2) rfl ?_); refine Be ?hg (N := 2) ?hd (cs := #[.int .i64 a0_0, .int .i64 a0_1, .int .i64 a0_2, .int .i64 a0_3, .int .i64 a0_4]) (t := 28) ?hr ?_; (case hd | hg => rfl); (case hr => first | (go_simp; done) | (go_simp; rfl)); intro gb401 hg w8 hbox hb; have n0_ := Am (Bt (by repeat (first | exact HB.out | apply Ba | apply Bn | apply Bd)) hb); have n1_ := Am (hbox); have n2_ := Am ((by rw [hg]; exact (Bz (by repeat (first | exact HB.out | apply Ba | apply Bn | apply Bd))) : w.heap.size ≤ gb401)); have n3_ := Am ((by rw [hg]; exact (Bz (by repeat (first | exact HB.out | apply Ba | apply Bn | apply Bd))) : w.heap.size ≤ gb401)); clear HB; have HB := n0_; have BK401 := n1_; have GW401 := n2_; have GE401 := n3_; clear n0_ n1_ n2_ n3_; clear hb hbox hg) | ((refine Gd (N := 3) rfl ?_); refine Be ?hg (N := 3) ?hd (cs := #[.int .i64 a1_0, .int .i64 a1_1, .int .i64 a1_2, .int .i64 a1_3, .int .i64 a1_4]) (t := 28) ?hr ?_; (case hd | hg => rfl); (case hr => first | (go_simp; done) | (go_simp; rfl)); intro gb402 hg w9 hbox hb; have n0_ := Am (Kb (g := gb401) (o := .cells #[.int .i64 a0_0, .int .i64 a0_1, .int .i64 a0_2, .int .i64 a0_3, .int .i64 a0_4] 28 (0, 0)) (by (with_reducible repeat (first | refine Kn ?_ _ | refine Ke ?_ | refine Ka ?_ _)); exact BK401.out) hb); have n1_ := Am (Bt (by repeat (first | (with_reducible first | exact HB.out | apply Ba | apply Bn | apply Bd | refine Bs ?_ GE401.out) | exact HB.out)) hb); have n2_ := Am (hbox); have n3_ := Am ((by rw [hg]; exact (Bz (by repeat (first | (with_reducible first | exact HB.out | apply Ba | apply Bn | apply Bd | refine Bs ?_ GE401.out) | exact HB.out))) : w.heap.size ≤ gb402)); have n4_ := Am ((by rw [hg]; exact (Bz (by repeat (first | (with_reducible first | exact HB.out | apply Ba | apply Bn | apply Bd | refine Bs ?_ GE401.out) | exact HB.out))) : w.heap.size ≤ gb402)); have n5_ := Am ((by rw [hg]; exact Nat.ne_of_lt (blk_lt (g := gb401) (o := .cells #[.int .i64 a0_0, .int .i64 a0_1, .int .i64 a0_2, .int .i64 a0_3, .int .i64 a0_4] 28 (0, 0)) (by (with_reducible repeat (first | refine Kn ?_ _ | refine Ke ?_ | refine Ka ?_ _)); exact BK401.out)) : gb401 ≠ gb402)); have n6_ := Am ((by rw [hg]; exact Nat.ne_of_gt (blk_lt (g := gb401) (o := .cells #[.int .i64 a0_0, .int .i64 a0_1, .int .i64 a0_2, .int .i64 a0_3, .int .i64 a0_4] 28 (0, 0)) (by (with_reducible repeat (first | refine Kn ?_ _ | refine Ke ?_ | refine Ka ?_ _)); exact BK401.out)) : gb402 ≠ gb401)); clear BK401; clear HB; have BK401 := n0_; have HB := n1_; have BK402 := n2_; have GW402 := n3_; have GE402 := n4_; have NB401_402 := n5_; have NB402_401 := n6_; clear n0_ n1_ n2_ n3_ n4_ n5_ n6_; clear hb hbox hg; have hnb10 := NB401_402.out; have hnc10 := NB402_401.out; have hcz11_0 : w9.cell? ⟨gb401, 0, none⟩ = some (.int .i64 a0_0) := (Kc BK401.out 0).trans rfl; have hcz11_1 : w9.cell? ⟨gb401, 1, none⟩ = some (.int .i64 a0_1) := (Kc BK401.out 1).trans rfl; have hcz11_2 : w9.cell? ⟨gb401, 2, none⟩ = some (.int .i64 a0_2) := (Kc BK401.out 2).trans rfl; have hcz11_3 : w9.cell? ⟨gb401, 3, none⟩ = some (.int .i64 a0_3) := (Kc BK401.out 3).trans rfl; have hcz11_4 : w9.cell? ⟨gb401, 4, none⟩ = some (.int .i64 a0_4) := (Kc BK401.out 4).trans rfl; have hfz11_0 := Kz BK401.out 0; have hfz11_1 := Kz BK401.out 1; have hfz11_2 := Kz BK401.out 2; have hfz11_3 := Kz BK401.out 3; have hfz11_4 := Kz BK401.out 4) | ((refine Gc (f := 21) rfl ?_); refine goesL_ (some 7) rfl rfl Try.func21 (by kernel_rfl) rfl #[.agg #[.int .i64 a0_0, .int .i64 a0_1, .int .i64 a0_2, .int .i64 a0_3, .int .i64 a0_4]] rfl (by first | rfl | (simp only [List.map_toArray, List.map_cons, List.map_nil]; first | done | rfl)) ?_; (with_reducible refine (impl_GoodCmd.calls a0_0 a0_1 a0_2 a0_3 a0_4 true _ A3.out).mono ?_); rintro e w12 ⟨rfl, hb⟩; refine ⟨_, rfl, ?_⟩; have n0_ := Am (Kb (g := gb401) (o := .cells #[.int .i64 a0_0, .int .i64 a0_1, .int .i64 a0_2, .int .i64 a0_3, .int .i64 a0_4] 28 (0, 0)) (by (with_reducible repeat (first | refine Kn ?_ _ | refine Ke ?_ | refine Ka ?_ _)); exact BK401.out) hb); have n1_ := Am (Kb (g := gb402) (o := .cells #[.int .i64 a1_0, .int .i64 a1_1, .int .i64 a1_2, .int .i64 a1_3, .int .i64 a1_4] 28 (0, 0)) (by (with_reducible repeat (first | refine Kn ?_ _ | refine Ke ?_ | refine Ka ?_ _)); exact BK402.out) hb); have n2_ := Am (Bt (by repeat (first | (with_reducible first | exact HB.out | apply Ba | apply Bn | apply Bd | refine Bs ?_ GE401.out | refine Bs ?_ GE402.out) | exact HB.out)) hb); clear BK401; clear BK402; clear HB; have BK401 := n0_; have BK402 := n1_; have HB := n2_; clear n0_ n1_ n2_; (try clear hb); (try clear hb2); (try clear hk); (try clear hi); have hcz13_0 : w12.cell? ⟨gb402, 0, none⟩ = some (.int .i64 a1_0) := (Kc BK402.out 0).trans rfl; have hcz13_1 : w12.cell? ⟨gb402, 1, none⟩ = some (.int .i64 a1_1) := (Kc BK402.out 1).trans rfl; have hcz13_2 : w12.cell? ⟨gb402, 2, none⟩ = some (.int .i64 a1_2) := (Kc BK402.out 2).trans rfl; have hcz13_3 : w12.cell? ⟨gb402, 3, none⟩ = some (.int .i64 a1_3) := (Kc BK402.out 3).trans rfl; have hcz13_4 : w12.cell? ⟨gb402, 4, none⟩ = some (.int .i64 a1_4) := (Kc BK402.out 4).trans rfl; have hfz13_0 := Kz BK402.out 0; have hfz13_1 := Kz BK402.out 1; have hfz13_2 := Kz BK402.out 2; have hfz13_3 := Kz BK402.out 3; have hfz13_4 := Kz BK402.out 4) | (go_at_call 21; (with_reducible refine (impl_GoodCmd.calls a1_0 a1_1 a1_2 a1_3 a1_4 true _ A5.out).mono ?_); rintro e w14 ⟨rfl, hb⟩; have n0_ := Am (Kb (g := gb401) (o := .cells #[.int .i64 a0_0, .int .i64 a0_1, .int .i64 a0_2, .int .i64 a0_3, .int .i64 a0_4] 28 (0, 0)) (by (with_reducible repeat (first | refine Kn ?_ _ | refine Ke ?_ | refine Ka ?_ _)); exact BK401.out) hb); have n1_ := Am (Kb (g := gb402) (o := .cells #[.int .i64 a1_0, .int .i64 a1_1, .int .i64 a1_2, .int .i64 a1_3, .int .i64 a1_4] 28 (0, 0)) (by (with_reducible repeat (first | refine Kn ?_ _ | refine Ke ?_ | refine Ka ?_ _)); exact BK402.out) hb); have n2_ := Am (Bt (by repeat (first | (with_reducible first | exact HB.out | apply Ba | apply Bn | apply Bd | refine Bs ?_ GE401.out | refine Bs ?_ GE402.out) | exact HB.out)) hb); clear BK401; clear BK402; clear HB; have BK401 := n0_; have BK402 := n1_; have HB := n2_; clear n0_ n1_ n2_; (try clear hb); (try clear hb2); (try clear hk); (try clear hi); have hcz15_0 : w14.cell? ⟨gb401, 0, none⟩ = some (.int .i64 a0_0) := (Kc BK401.out 0).trans rfl; have hcz15_1 : w14.cell? ⟨gb401, 1, none⟩ = some (.int .i64 a0_1) := (Kc BK401.out 1).trans rfl; have hcz15_2 : w14.cell? ⟨gb401, 2, none⟩ = some (.int .i64 a0_2) := (Kc BK401.out 2).trans rfl; have hcz15_3 : w14.cell? ⟨gb401, 3, none⟩ = some (.int .i64 a0_3) := (Kc BK401.out 3).trans rfl; have hcz15_4 : w14.cell? ⟨gb401, 4, none⟩ = some (.int .i64 a0_4) := (Kc BK401.out 4).trans rfl; have hfz15_0 := Kz BK401.out 0; have hfz15_1 := Kz BK401.out 1; have hfz15_2 := Kz BK401.out 2; have hfz15_3 := Kz BK401.out 3; have hfz15_4 := Kz BK401.out 4; have hcz16_0 : w14.cell? ⟨gb402, 0, none⟩ = some (.int .i64 a1_0) := (Kc BK402.out 0).trans rfl; have hcz16_1 : w14.cell? ⟨gb402, 1, none⟩ = some (.int .i64 a1_1) := (Kc BK402.out 1).trans rfl; have hcz16_2 : w14.cell? ⟨gb402, 2, none⟩ = some (.int .i64 a1_2) := (Kc BK402.out 2).trans rfl; have hcz16_3 : w14.cell? ⟨gb402, 3, none⟩ = some (.int .i64 a1_3) := (Kc BK402.out 3).trans rfl; have hcz16_4 : w14.cell? ⟨gb402, 4, none⟩ = some (.int .i64 a1_4) := (Kc BK402.out 4).trans rfl; have hfz16_0 := Kz BK402.out 0; have hfz16_1 := Kz BK402.out 1; have hfz16_2 := Kz BK402.out 2; have hfz16_3 := Kz BK402.out 3; have hfz16_4 := Kz BK402.out 4) | ((refine Gc (f := 28) rfl ?_); refine goesL_ (some 16) rfl rfl Try.func28 (by kernel_rfl) rfl #[.agg #[.int .i64 a0_0, .int .i64 a0_1, .int .i64 a0_2, .int .i64 a0_3, .int .i64 a0_4], .agg #[.int .i64 a1_0, .int .i64 a1_1, .int .i64 a1_2, .int .i64 a1_3, .int .i64 a1_4]] rfl (by first | rfl | (simp only [List.map_toArray, List.map_cons, List.map_nil]; first | done | rfl)) ?_; (with_reducible refine (impl_interfere.calls k a0_0 a0_1 a0_2 a0_3 a0_4 a1_0 a1_1 a1_2 a1_3 a1_4 t405 _ A7.out).mono ?_); rintro e w17 ⟨rfl, hb⟩; refine ⟨_, rfl, ?_⟩; have n0_ := Am (Kb (g := gb401) (o := .cells #[.int .i64 a0_0, .int .i64 a0_1, .int .i64 a0_2, .int .i64 a0_3, .int .i64 a0_4] 28 (0, 0)) (by (with_reducible repeat (first | refine Kn ?_ _ | refine Ke ?_ | refine Ka ?_ _)); exact BK401.out) hb); have n1_ := Am (Kb (g := gb402) (o := .cells #[.int .i64 a1_0, .int .i64 a1_1, .int .i64 a1_2, .int .i64 a1_3, .int .i64 a1_4] 28 (0, 0)) (by (with_reducible repeat (first | refine Kn ?_ _ | refine Ke ?_ | refine Ka ?_ _)); exact BK402.out) hb); have n2_ := Am (Bt (by repeat (first | (with_reducible first | exact HB.out | apply Ba | apply Bn | apply Bd | refine Bs ?_ GE401.out | refine Bs ?_ GE402.out) | exact HB.out)) hb); clear BK401; clear BK402; clear HB; have BK401 := n0_; have BK402 := n1_; have HB := n2_; clear n0_ n1_ n2_; (try clear hb); (try clear hb2); (try clear hk); (try clear hi)))
   go_ret2
   exact ⟨by first | rfl | (simp [*, errW_none, errW_some] <;> rfl), by repeat (first | (with_reducible first | exact HB.out | apply Ba | apply Bn | apply Bd | refine Bs ?_ GE401.out | refine Bs ?_ GE402.out) | exact HB.out)⟩
  ·replace c6 := Bool.eq_false_iff.mpr c6
   subst c6
   have H1 : (some (false, false)) = some (r1, r2) := by rw [if_neg (show ¬ (false = true) by decide)] at H; exact H
   clear H
   have H := H1
   clear H1
   simp only [Option.some.injEq, Prod.mk.injEq] at H
   obtain ⟨rfl, rfl⟩ := H
   go_enter Try.func10, Try.ntmps10
   go_wp2_with (first | ((refine Gd (N := 2) rfl ?_); refine Be ?hg (N := 2) ?hd (cs := #[.int .i64 a0_0, .int .i64 a0_1, .int .i64 a0_2, .int .i64 a0_3, .int .i64 a0_4]) (t := 28) ?hr ?_; (case hd | hg => rfl); (case hr => first | (go_simp; done) | (go_simp; rfl)); intro gb401 hg w18 hbox hb; have n0_ := Am (Bt (by repeat (first | exact HB.out | apply Ba | apply Bn | apply Bd)) hb); have n1_ := Am (hbox); have n2_ := Am ((by rw [hg]; exact (Bz (by repeat (first | exact HB.out | apply Ba | apply Bn | apply Bd))) : w.heap.size ≤ gb401)); have n3_ := Am ((by rw [hg]; exact (Bz (by repeat (first | exact HB.out | apply Ba | apply Bn | apply Bd))) : w.heap.size ≤ gb401)); clear HB; have HB := n0_; have BK401 := n1_; have GW401 := n2_; have GE401 := n3_; clear n0_ n1_ n2_ n3_; clear hb hbox hg) | ((refine Gd (N := 3) rfl ?_); refine Be ?hg (N := 3) ?hd (cs := #[.int .i64 a1_0, .int .i64 a1_1, .int .i64 a1_2, .int .i64 a1_3, .int .i64 a1_4]) (t := 28) ?hr ?_; (case hd | hg => rfl); (case hr => first | (go_simp; done) | (go_simp; rfl)); intro gb402 hg w19 hbox hb; have n0_ := Am (Kb (g := gb401) (o := .cells #[.int .i64 a0_0, .int .i64 a0_1, .int .i64 a0_2, .int .i64 a0_3, .int .i64 a0_4] 28 (0, 0)) (by (with_reducible repeat (first | refine Kn ?_ _ | refine Ke ?_ | refine Ka ?_ _)); exact BK401.out) hb); have n1_ := Am (Bt (by repeat (first | (with_reducible first | exact HB.out | apply Ba | apply Bn | apply Bd | refine Bs ?_ GE401.out) | exact HB.out)) hb); have n2_ := Am (hbox); have n3_ := Am ((by rw [hg]; exact (Bz (by repeat (first | (with_reducible first | exact HB.out | apply Ba | apply Bn | apply Bd | refine Bs ?_ GE401.out) | exact HB.out))) : w.heap.size ≤ gb402)); have n4_ := Am ((by rw [hg]; exact (Bz (by repeat (first | (with_reducible first | exact HB.out | apply Ba | apply Bn | apply Bd | refine Bs ?_ GE401.out) | exact HB.out))) : w.heap.size ≤ gb402)); have n5_ := Am ((by rw [hg]; exact Nat.ne_of_lt (blk_lt (g := gb401) (o := .cells #[.int .i64 a0_0, .int .i64 a0_1, .int .i64 a0_2, .int .i64 a0_3, .int .i64 a0_4] 28 (0, 0)) (by (with_reducible repeat (first | refine Kn ?_ _ | refine Ke ?_ | refine Ka ?_ _)); exact BK401.out)) : gb401 ≠ gb402)); have n6_ := Am ((by rw [hg]; exact Nat.ne_of_gt (blk_lt (g := gb401) (o := .cells #[.int .i64 a0_0, .int .i64 a0_1, .int .i64 a0_2, .int .i64 a0_3, .int .i64 a0_4] 28 (0, 0)) (by (with_reducible repeat (first | refine Kn ?_ _ | refine Ke ?_ | refine Ka ?_ _)); exact BK401.out)) : gb402 ≠ gb401)); clear BK401; clear HB; have BK401 := n0_; have HB := n1_; have BK402 := n2_; have GW402 := n3_; have GE402 := n4_; have NB401_402 := n5_; have NB402_401 := n6_; clear n0_ n1_ n2_ n3_ n4_ n5_ n6_; clear hb hbox hg; have hnb20 := NB401_402.out; have hnc20 := NB402_401.out; have hcz21_0 : w19.cell? ⟨gb401, 0, none⟩ = some (.int .i64 a0_0) := (Kc BK401.out 0).trans rfl; have hcz21_1 : w19.cell? ⟨gb401, 1, none⟩ = some (.int .i64 a0_1) := (Kc BK401.out 1).trans rfl; have hcz21_2 : w19.cell? ⟨gb401, 2, none⟩ = some (.int .i64 a0_2) := (Kc BK401.out 2).trans rfl; have hcz21_3 : w19.cell? ⟨gb401, 3, none⟩ = some (.int .i64 a0_3) := (Kc BK401.out 3).trans rfl; have hcz21_4 : w19.cell? ⟨gb401, 4, none⟩ = some (.int .i64 a0_4) := (Kc BK401.out 4).trans rfl; have hfz21_0 := Kz BK401.out 0; have hfz21_1 := Kz BK401.out 1; have hfz21_2 := Kz BK401.out 2; have hfz21_3 := Kz BK401.out 3; have hfz21_4 := Kz BK401.out 4) | ((refine Gc (f := 21) rfl ?_); refine goesL_ (some 7) rfl rfl Try.func21 (by kernel_rfl) rfl #[.agg #[.int .i64 a0_0, .int .i64 a0_1, .int .i64 a0_2, .int .i64 a0_3, .int .i64 a0_4]] rfl (by first | rfl | (simp only [List.map_toArray, List.map_cons, List.map_nil]; first | done | rfl)) ?_; (with_reducible refine (impl_GoodCmd.calls a0_0 a0_1 a0_2 a0_3 a0_4 true _ A3.out).mono ?_); rintro e w22 ⟨rfl, hb⟩; refine ⟨_, rfl, ?_⟩; have n0_ := Am (Kb (g := gb401) (o := .cells #[.int .i64 a0_0, .int .i64 a0_1, .int .i64 a0_2, .int .i64 a0_3, .int .i64 a0_4] 28 (0, 0)) (by (with_reducible repeat (first | refine Kn ?_ _ | refine Ke ?_ | refine Ka ?_ _)); exact BK401.out) hb); have n1_ := Am (Kb (g := gb402) (o := .cells #[.int .i64 a1_0, .int .i64 a1_1, .int .i64 a1_2, .int .i64 a1_3, .int .i64 a1_4] 28 (0, 0)) (by (with_reducible repeat (first | refine Kn ?_ _ | refine Ke ?_ | refine Ka ?_ _)); exact BK402.out) hb); have n2_ := Am (Bt (by repeat (first | (with_reducible first | exact HB.out | apply Ba | apply Bn | apply Bd | refine Bs ?_ GE401.out | refine Bs ?_ GE402.out) | exact HB.out)) hb); clear BK401; clear BK402; clear HB; have BK401 := n0_; have BK402 := n1_; have HB := n2_; clear n0_ n1_ n2_; (try clear hb); (try clear hb2); (try clear hk); (try clear hi); have hcz23_0 : w22.cell? ⟨gb402, 0, none⟩ = some (.int .i64 a1_0) := (Kc BK402.out 0).trans rfl; have hcz23_1 : w22.cell? ⟨gb402, 1, none⟩ = some (.int .i64 a1_1) := (Kc BK402.out 1).trans rfl; have hcz23_2 : w22.cell? ⟨gb402, 2, none⟩ = some (.int .i64 a1_2) := (Kc BK402.out 2).trans rfl; have hcz23_3 : w22.cell? ⟨gb402, 3, none⟩ = some (.int .i64 a1_3) := (Kc BK402.out 3).trans rfl; have hcz23_4 : w22.cell? ⟨gb402, 4, none⟩ = some (.int .i64 a1_4) := (Kc BK402.out 4).trans rfl; have hfz23_0 := Kz BK402.out 0; have hfz23_1 := Kz BK402.out 1; have hfz23_2 := Kz BK402.out 2; have hfz23_3 := Kz BK402.out 3; have hfz23_4 := Kz BK402.out 4) | (go_at_call 21; (with_reducible refine (impl_GoodCmd.calls a1_0 a1_1 a1_2 a1_3 a1_4 false _ A5.out).mono ?_); rintro e w24 ⟨rfl, hb⟩; have n0_ := Am (Kb (g := gb401) (o := .cells #[.int .i64 a0_0, .int .i64 a0_1, .int .i64 a0_2, .int .i64 a0_3, .int .i64 a0_4] 28 (0, 0)) (by (with_reducible repeat (first | refine Kn ?_ _ | refine Ke ?_ | refine Ka ?_ _)); exact BK401.out) hb); have n1_ := Am (Kb (g := gb402) (o := .cells #[.int .i64 a1_0, .int .i64 a1_1, .int .i64 a1_2, .int .i64 a1_3, .int .i64 a1_4] 28 (0, 0)) (by (with_reducible repeat (first | refine Kn ?_ _ | refine Ke ?_ | refine Ka ?_ _)); exact BK402.out) hb); have n2_ := Am (Bt (by repeat (first | (with_reducible first | exact HB.out | apply Ba | apply Bn | apply Bd | refine Bs ?_ GE401.out | refine Bs ?_ GE402.out) | exact HB.out)) hb); clear BK401; clear BK402; clear HB; have BK401 := n0_; have BK402 := n1_; have HB := n2_; clear n0_ n1_ n2_; (try clear hb); (try clear hb2); (try clear hk); (try clear hi)))
   go_ret2
   exact ⟨by first | rfl | (simp [*, errW_none, errW_some] <;> rfl), by repeat (first | (with_reducible first | exact HB.out | apply Ba | apply Bn | apply Bd | refine Bs ?_ GE401.out | refine Bs ?_ GE402.out) | exact HB.out)⟩
 ·replace c4 := Bool.eq_false_iff.mpr c4
  subst c4
  have H1 : (some (false, false)) = some (r1, r2) := by rw [if_neg (show ¬ (false = true) by decide)] at H; exact H
  clear H
  have H := H1
  clear H1
  simp only [Option.some.injEq, Prod.mk.injEq] at H
  obtain ⟨rfl, rfl⟩ := H
  go_enter Try.func10, Try.ntmps10
  go_wp2_with (first | ((refine Gd (N := 2) rfl ?_); refine Be ?hg (N := 2) ?hd (cs := #[.int .i64 a0_0, .int .i64 a0_1, .int .i64 a0_2, .int .i64 a0_3, .int .i64 a0_4]) (t := 28) ?hr ?_; (case hd | hg => rfl); (case hr => first | (go_simp; done) | (go_simp; rfl)); intro gb401 hg w25 hbox hb; have n0_ := Am (Bt (by repeat (first | exact HB.out | apply Ba | apply Bn | apply Bd)) hb); have n1_ := Am (hbox); have n2_ := Am ((by rw [hg]; exact (Bz (by repeat (first | exact HB.out | apply Ba | apply Bn | apply Bd))) : w.heap.size ≤ gb401)); have n3_ := Am ((by rw [hg]; exact (Bz (by repeat (first | exact HB.out | apply Ba | apply Bn | apply Bd))) : w.heap.size ≤ gb401)); clear HB; have HB := n0_; have BK401 := n1_; have GW401 := n2_; have GE401 := n3_; clear n0_ n1_ n2_ n3_; clear hb hbox hg) | ((refine Gd (N := 3) rfl ?_); refine Be ?hg (N := 3) ?hd (cs := #[.int .i64 a1_0, .int .i64 a1_1, .int .i64 a1_2, .int .i64 a1_3, .int .i64 a1_4]) (t := 28) ?hr ?_; (case hd | hg => rfl); (case hr => first | (go_simp; done) | (go_simp; rfl)); intro gb402 hg w26 hbox hb; have n0_ := Am (Kb (g := gb401) (o := .cells #[.int .i64 a0_0, .int .i64 a0_1, .int .i64 a0_2, .int .i64 a0_3, .int .i64 a0_4] 28 (0, 0)) (by (with_reducible repeat (first | refine Kn ?_ _ | refine Ke ?_ | refine Ka ?_ _)); exact BK401.out) hb); have n1_ := Am (Bt (by repeat (first | (with_reducible first | exact HB.out | apply Ba | apply Bn | apply Bd | refine Bs ?_ GE401.out) | exact HB.out)) hb); have n2_ := Am (hbox); have n3_ := Am ((by rw [hg]; exact (Bz (by repeat (first | (with_reducible first | exact HB.out | apply Ba | apply Bn | apply Bd | refine Bs ?_ GE401.out) | exact HB.out))) : w.heap.size ≤ gb402)); have n4_ := Am ((by rw [hg]; exact (Bz (by repeat (first | (with_reducible first | exact HB.out | apply Ba | apply Bn | apply Bd | refine Bs ?_ GE401.out) | exact HB.out))) : w.heap.size ≤ gb402)); have n5_ := Am ((by rw [hg]; exact Nat.ne_of_lt (blk_lt (g := gb401) (o := .cells #[.int .i64 a0_0, .int .i64 a0_1, .int .i64 a0_2, .int .i64 a0_3, .int .i64 a0_4] 28 (0, 0)) (by (with_reducible repeat (first | refine Kn ?_ _ | refine Ke ?_ | refine Ka ?_ _)); exact BK401.out)) : gb401 ≠ gb402)); have n6_ := Am ((by rw [hg]; exact Nat.ne_of_gt (blk_lt (g := gb401) (o := .cells #[.int .i64 a0_0, .int .i64 a0_1, .int .i64 a0_2, .int .i64 a0_3, .int .i64 a0_4] 28 (0, 0)) (by (with_reducible repeat (first | refine Kn ?_ _ | refine Ke ?_ | refine Ka ?_ _)); exact BK401.out)) : gb402 ≠ gb401)); clear BK401; clear HB; have BK401 := n0_; have HB := n1_; have BK402 := n2_; have GW402 := n3_; have GE402 := n4_; have NB401_402 := n5_; have NB402_401 := n6_; clear n0_ n1_ n2_ n3_ n4_ n5_ n6_; clear hb hbox hg; have hnb27 := NB401_402.out; have hnc27 := NB402_401.out; have hcz28_0 : w26.cell? ⟨gb401, 0, none⟩ = some (.int .i64 a0_0) := (Kc BK401.out 0).trans rfl; have hcz28_1 : w26.cell? ⟨gb401, 1, none⟩ = some (.int .i64 a0_1) := (Kc BK401.out 1).trans rfl; have hcz28_2 : w26.cell? ⟨gb401, 2, none⟩ = some (.int .i64 a0_2) := (Kc BK401.out 2).trans rfl; have hcz28_3 : w26.cell? ⟨gb401, 3, none⟩ = some (.int .i64 a0_3) := (Kc BK401.out 3).trans rfl; have hcz28_4 : w26.cell? ⟨gb401, 4, none⟩ = some (.int .i64 a0_4) := (Kc BK401.out 4).trans rfl; have hfz28_0 := Kz BK401.out 0; have hfz28_1 := Kz BK401.out 1; have hfz28_2 := Kz BK401.out 2; have hfz28_3 := Kz BK401.out 3; have hfz28_4 := Kz BK401.out 4) | ((refine Gc (f := 21) rfl ?_); refine goesL_ (some 7) rfl rfl Try.func21 (by kernel_rfl) rfl #[.agg #[.int .i64 a0_0, .int .i64 a0_1, .int .i64 a0_2, .int .i64 a0_3, .int .i64 a0_4]] rfl (by first | rfl | (simp only [List.map_toArray, List.map_cons, List.map_nil]; first | done | rfl)) ?_; (with_reducible refine (impl_GoodCmd.calls a0_0 a0_1 a0_2 a0_3 a0_4 false _ A3.out).mono ?_); rintro e w29 ⟨rfl, hb⟩; refine ⟨_, rfl, ?_⟩; have n0_ := Am (Kb (g := gb401) (o := .cells #[.int .i64 a0_0, .int .i64 a0_1, .int .i64 a0_2, .int .i64 a0_3, .int .i64 a0_4] 28 (0, 0)) (by (with_reducible repeat (first | refine Kn ?_ _ | refine Ke ?_ | refine Ka ?_ _)); exact BK401.out) hb); have n1_ := Am (Kb (g := gb402) (o := .cells #[.int .i64 a1_0, .int .i64 a1_1, .int .i64 a1_2, .int .i64 a1_3, .int .i64 a1_4] 28 (0, 0)) (by (with_reducible repeat (first | refine Kn ?_ _ | refine Ke ?_ | refine Ka ?_ _)); exact BK402.out) hb); have n2_ := Am (Bt (by repeat (first | (with_reducible first | exact HB.out | apply Ba | apply Bn | apply Bd | refine Bs ?_ GE401.out | refine Bs ?_ GE402.out) | exact HB.out)) hb); clear BK401; clear BK402; clear HB; have BK401 := n0_; have BK402 := n1_; have HB := n2_; clear n0_ n1_ n2_; (try clear hb); (try clear hb2); (try clear hk); (try clear hi)))
  go_ret2
  exact ⟨by first | rfl | (simp [*, errW_none, errW_some] <;> rfl), by repeat (first | (with_reducible first | exact HB.out | apply Ba | apply Bn | apply Bd | refine Bs ?_ GE401.out | refine Bs ?_ GE402.out) | exact HB.out)⟩
def impl_HangsOn.f (a0 : Int) (a1_0 : Int) (l1_1 : List Int) (a2 : Int) (a3 : Int) : Option (Bool × Bool) := (impl_GoodAttr.f a0 a1_0 l1_1).bind fun t407 => (if t407 = true then ((impl_isInstance.f a0 a2 a3).bind fun t408 => (if t408 = true then (if 0 ≤ a2 then (if a2 < (l1_1.length : Int) then (some (decide (a3 ≤ (rd l1_1 a2)), true)) else (none)) else (none)) else (some (false, false)))) else (some (false, false)))
set_option maxHeartbeats 8000000 in
set_option maxRecDepth 100000 in
theorem impl_HangsOn.calls (a0 : Int) (a1_0 : Int) (A1_1 : Option Addr) (c1_1 : Nat) (l1_1 : List Int) (a2 : Int) (a3 : Int) (r1 : Bool) (r2 : Bool) (w : World) (hr1_1 : Kd.C (Kd.int .i64) w A1_1 l1_1.length l1_1) (hc1_1 : l1_1.length ≤ c1_1) (h : impl_HangsOn.f a0 a1_0 l1_1 a2 a3 = some (r1, r2)) :
  Calls Try.prog 11 #[.int .i64 a0, .agg #[.int .i64 a1_0, .slice A1_1 l1_1.length c1_1], .int .i64 a2, .int .i64 a3] w fun e w' => e = .returned (.tuple #[.bool r1, .bool r2]) ∧ Below w.heap.size w w' := by
 have hu33 := Try.underlying33
 have HR1_1 := Am hr1_1
 have HC1_1 := Am hc1_1
 clear hr1_1 hc1_1
 have HB := Am (Below.refl w.heap.size w)
 have H : ((impl_GoodAttr.f a0 a1_0 l1_1).bind fun t407 => (if t407 = true then ((impl_isInstance.f a0 a2 a3).bind fun t408 => (if t408 = true then (if 0 ≤ a2 then (if a2 < (l1_1.length : Int) then (some (decide (a3 ≤ (rd l1_1 a2)), true)) else (none)) else (none)) else (some (false, false)))) else (some (false, false)))) = some (r1, r2) := h
 clear h
 replace H := Option.bind_eq_some_iff.mp H
 obtain ⟨t407, A50, H⟩ := H
 replace H : (if t407 = true then ((impl_isInstance.f a0 a2 a3).bind fun t408 => (if t408 = true then (if 0 ≤ a2 then (if a2 < (l1_1.length : Int) then (some (decide (a3 ≤ (rd l1_1 a2)), true)) else (none)) else (none)) else (some (false, false)))) else (some (false, false))) = some (r1, r2) := H
 have A5 := Am A50
 clear A50
 by_cases c6 : t407 = true
 ·subst c6
  have H1 : ((impl_isInstance.f a0 a2 a3).bind fun t408 => (if t408 = true then (if 0 ≤ a2 then (if a2 < (l1_1.length : Int) then (some (decide (a3 ≤ (rd l1_1 a2)), true)) else (none)) else (none)) else (some (false, false)))) = some (r1, r2) := by rw [if_pos rfl] at H; exact H
  clear H
  have H := H1
  clear H1
  replace H := Option.bind_eq_some_iff.mp H
  obtain ⟨t408, A70, H⟩ := H
  replace H : (if t408 = true then (if 0 ≤ a2 then (if a2 < (l1_1.length : Int) then (some (decide (a3 ≤ (rd l1_1 a2)), true)) else (none)) else (none)) else (some (false, false))) = some (r1, r2) := H
  have A7 := Am A70
  clear A70
  by_cases c8 : t408 = true
  ·subst c8
   have H1 : (if 0 ≤ a2 then (if a2 < (l1_1.length : Int) then (some (decide (a3 ≤ (rd l1_1 a2)), true)) else (none)) else (none)) = some (r1, r2) := by rw [if_pos rfl] at H; exact H
   clear H
   have H := H1
   clear H1
   by_cases c9 : 0 ≤ a2
   ·rw [if_pos c9] at H
    have c9b0 : decide (0 ≤ a2) = true := decide_eq_true c9
    clear c9
    by_cases c10 : a2 < (l1_1.length : Int)
    ·rw [if_pos c10] at H
     have c10b0 : decide (a2 < (l1_1.length : Int)) = true := decide_eq_true c10
     clear c10
     simp only [Option.some.injEq, Prod.mk.injEq] at H
     obtain ⟨rfl, rfl⟩ := H
     go_enter Try.func11, Try.ntmps11
     go_wp2_with (first | ((refine Gd (N := 5) rfl ?_); refine Be ?hg (N := 5) ?hd (cs := #[.int .i64 a1_0, .slice A1_1 l1_1.length c1_1]) (t := 33) ?hr ?_; (case hd | hg => rfl); (case hr => first | (go_simp; done) | (go_simp; rfl)); intro gb406 hg w11 hbox hb; have n0_ := Am (Bt (by repeat (first | exact HB.out | apply Ba | apply Bn | apply Bd)) hb); have n1_ := Am (hbox); have n2_ := Am ((by rw [hg]; exact (Bz (by repeat (first | exact HB.out | apply Ba | apply Bn | apply Bd))) : w.heap.size ≤ gb406)); have n3_ := Am ((by rw [hg]; exact (Bz (by repeat (first | exact HB.out | apply Ba | apply Bn | apply Bd))) : w.heap.size ≤ gb406)); clear HB; have HB := n0_; have BK406 := n1_; have GW406 := n2_; have GE406 := n3_; clear n0_ n1_ n2_ n3_; clear hb hbox hg; have hcz12_0 : w11.cell? ⟨gb406, 0, none⟩ = some (.int .i64 a1_0) := (Kc BK406.out 0).trans rfl; have hcz12_1 : w11.cell? ⟨gb406, 1, none⟩ = some (.slice A1_1 l1_1.length c1_1) := (Kc BK406.out 1).trans rfl; have hfz12_0 := Kz BK406.out 0; have hfz12_1 := Kz BK406.out 1) | ((refine Gc (f := 29) rfl ?_); refine goesL_ (some 12) rfl rfl Try.func29 (by kernel_rfl) rfl #[.int .i64 a0, .agg #[.int .i64 a1_0, .slice A1_1 l1_1.length c1_1]] rfl (by first | rfl | (simp only [List.map_toArray, List.map_cons, List.map_nil]; first | done | rfl)) ?_; (with_reducible refine (impl_GoodAttr.calls a0 a1_0 _ _ l1_1 true _ ?side1 ?side2 A5.out).mono ?_); (case side1 => repeat (first | exact (Kd.C_below HR1_1.out HB.out) | (with_reducible refine Kd.C_alloc ?_ _) | (with_reducible refine Kd.C_drewN ?_ _) | (with_reducible refine Kd.C_drew ?_))); (case side2 => exact HC1_1.out); rintro e w13 ⟨rfl, hb⟩; refine ⟨_, rfl, ?_⟩; have n0_ := Am (Kb (g := gb406) (o := .cells #[.int .i64 a1_0, .slice A1_1 l1_1.length c1_1] 33 (0, 0)) (by (with_reducible repeat (first | refine Kn ?_ _ | refine Ke ?_ | refine Ka ?_ _)); exact BK406.out) hb); have n1_ := Am (Bt (by repeat (first | (with_reducible first | exact HB.out | apply Ba | apply Bn | apply Bd | refine Bs ?_ GE406.out) | exact HB.out)) hb); clear BK406; clear HB; have BK406 := n0_; have HB := n1_; clear n0_ n1_; (try clear hb); (try clear hb2); (try clear hk); (try clear hi)) | (go_at_call 22; (with_reducible refine (impl_isInstance.calls a0 a2 a3 true _ A7.out).mono ?_); rintro e w' ⟨rfl, ⟨nd, rfl⟩⟩; have hcz14_0 : w13.cell? ⟨gb406, 0, none⟩ = some (.int .i64 a1_0) := (Kc BK406.out 0).trans rfl; have hcz14_1 : w13.cell? ⟨gb406, 1, none⟩ = some (.slice A1_1 l1_1.length c1_1) := (Kc BK406.out 1).trans rfl; have hfz14_0 := Kz BK406.out 0; have hfz14_1 := Kz BK406.out 1; have p409 : 0 ≤ (a2 : Int) := of_decide_eq_true (by assumption); have q409 : a2 < (l1_1.length : Int) := of_decide_eq_true (by assumption); obtain ⟨ad409, e409, hx409_0⟩ := Kd.at_int HR1_1.out a2 p409 q409; cases e409; replace hx409_0 := (HB.out.cell (bl_ w _ hx409_0)).trans hx409_0; replace p409 := eq_true p409; replace q409 := eq_true q409))
     go_ret2
     exact ⟨by first | rfl | (simp [*, errW_none, errW_some] <;> rfl), by repeat (first | (with_reducible first | exact HB.out | apply Ba | apply Bn | apply Bd | refine Bs ?_ GE406.out) | exact HB.out)⟩
    ·rw [if_neg c10] at H
     exact absurd H (by simp)
   ·rw [if_neg c9] at H
    exact absurd H (by simp)
  ·replace c8 := Bool.eq_false_iff.mpr c8
   subst c8
   have H1 : (some (false, false)) = some (r1, r2) := by rw [if_neg (show ¬ (false = true) by decide)] at H; exact H
   clear H
   have H := H1
   clear H1
   simp only [Option.some.injEq, Prod.mk.injEq] at H
   obtain ⟨rfl, rfl⟩ := H
   go_enter Try.func11, Try.ntmps11
   go_wp2_with (first | ((refine Gd (N := 5) rfl ?_); refine Be ?hg (N := 5) ?hd (cs := #[.int .i64 a1_0, .slice A1_1 l1_1.length c1_1]) (t := 33) ?hr ?_; (case hd | hg => rfl); (case hr => first | (go_simp; done) | (go_simp; rfl)); intro gb406 hg w15 hbox hb; have n0_ := Am (Bt (by repeat (first | exact HB.out | apply Ba | apply Bn | apply Bd)) hb); have n1_ := Am (hbox); have n2_ := Am ((by rw [hg]; exact (Bz (by repeat (first | exact HB.out | apply Ba | apply Bn | apply Bd))) : w.heap.size ≤ gb406)); have n3_ := Am ((by rw [hg]; exact (Bz (by repeat (first | exact HB.out | apply Ba | apply Bn | apply Bd))) : w.heap.size ≤ gb406)); clear HB; have HB := n0_; have BK406 := n1_; have GW406 := n2_; have GE406 := n3_; clear n0_ n1_ n2_ n3_; clear hb hbox hg; have hcz16_0 : w15.cell? ⟨gb406, 0, none⟩ = some (.int .i64 a1_0) := (Kc BK406.out 0).trans rfl; have hcz16_1 : w15.cell? ⟨gb406, 1, none⟩ = some (.slice A1_1 l1_1.length c1_1) := (Kc BK406.out 1).trans rfl; have hfz16_0 := Kz BK406.out 0; have hfz16_1 := Kz BK406.out 1) | ((refine Gc (f := 29) rfl ?_); refine goesL_ (some 12) rfl rfl Try.func29 (by kernel_rfl) rfl #[.int .i64 a0, .agg #[.int .i64 a1_0, .slice A1_1 l1_1.length c1_1]] rfl (by first | rfl | (simp only [List.map_toArray, List.map_cons, List.map_nil]; first | done | rfl)) ?_; (with_reducible refine (impl_GoodAttr.calls a0 a1_0 _ _ l1_1 true _ ?side1 ?side2 A5.out).mono ?_); (case side1 => repeat (first | exact (Kd.C_below HR1_1.out HB.out) | (with_reducible refine Kd.C_alloc ?_ _) | (with_reducible refine Kd.C_drewN ?_ _) | (with_reducible refine Kd.C_drew ?_))); (case side2 => exact HC1_1.out); rintro e w17 ⟨rfl, hb⟩; refine ⟨_, rfl, ?_⟩; have n0_ := Am (Kb (g := gb406) (o := .cells #[.int .i64 a1_0, .slice A1_1 l1_1.length c1_1] 33 (0, 0)) (by (with_reducible repeat (first | refine Kn ?_ _ | refine Ke ?_ | refine Ka ?_ _)); exact BK406.out) hb); have n1_ := Am (Bt (by repeat (first | (with_reducible first | exact HB.out | apply Ba | apply Bn | apply Bd | refine Bs ?_ GE406.out) | exact HB.out)) hb); clear BK406; clear HB; have BK406 := n0_; have HB := n1_; clear n0_ n1_; (try clear hb); (try clear hb2); (try clear hk); (try clear hi)) | (go_at_call 22; (with_reducible refine (impl_isInstance.calls a0 a2 a3 false _ A7.out).mono ?_); rintro e w' ⟨rfl, ⟨nd, rfl⟩⟩))
   go_ret2
   exact ⟨by first | rfl | (simp [*, errW_none, errW_some] <;> rfl), by repeat (first | (with_reducible first | exact HB.out | apply Ba | apply Bn | apply Bd | refine Bs ?_ GE406.out) | exact HB.out)⟩
 ·replace c6 := Bool.eq_false_iff.mpr c6
  subst c6
  have H1 : (some (false, false)) = some (r1, r2) := by rw [if_neg (show ¬ (false = true) by decide)] at H; exact H
  clear H
  have H := H1
  clear H1
  simp only [Option.some.injEq, Prod.mk.injEq] at H
  obtain ⟨rfl, rfl⟩ := H
  go_enter Try.func11, Try.ntmps11
  go_wp2_with (first | ((refine Gd (N := 5) rfl ?_); refine Be ?hg (N := 5) ?hd (cs := #[.int .i64 a1_0, .slice A1_1 l1_1.length c1_1]) (t := 33) ?hr ?_; (case hd | hg => rfl); (case hr => first | (go_simp; done) | (go_simp; rfl)); intro gb406 hg w18 hbox hb; have n0_ := Am (Bt (by repeat (first | exact HB.out | apply Ba | apply Bn | apply Bd)) hb); have n1_ := Am (hbox); have n2_ := Am ((by rw [hg]; exact (Bz (by repeat (first | exact HB.out | apply Ba | apply Bn | apply Bd))) : w.heap.size ≤ gb406)); have n3_ := Am ((by rw [hg]; exact (Bz (by repeat (first | exact HB.out | apply Ba | apply Bn | apply Bd))) : w.heap.size ≤ gb406)); clear HB; have HB := n0_; have BK406 := n1_; have GW406 := n2_; have GE406 := n3_; clear n0_ n1_ n2_ n3_; clear hb hbox hg; have hcz19_0 : w18.cell? ⟨gb406, 0, none⟩ = some (.int .i64 a1_0) := (Kc BK406.out 0).trans rfl; have hcz19_1 : w18.cell? ⟨gb406, 1, none⟩ = some (.slice A1_1 l1_1.length c1_1) := (Kc BK406.out 1).trans rfl; have hfz19_0 := Kz BK406.out 0; have hfz19_1 := Kz BK406.out 1) | ((refine Gc (f := 29) rfl ?_); refine goesL_ (some 12) rfl rfl Try.func29 (by kernel_rfl) rfl #[.int .i64 a0, .agg #[.int .i64 a1_0, .slice A1_1 l1_1.length c1_1]] rfl (by first | rfl | (simp only [List.map_toArray, List.map_cons, List.map_nil]; first | done | rfl)) ?_; (with_reducible refine (impl_GoodAttr.calls a0 a1_0 _ _ l1_1 false _ ?side1 ?side2 A5.out).mono ?_); (case side1 => repeat (first | exact (Kd.C_below HR1_1.out HB.out) | (with_reducible refine Kd.C_alloc ?_ _) | (with_reducible refine Kd.C_drewN ?_ _) | (with_reducible refine Kd.C_drew ?_))); (case side2 => exact HC1_1.out); rintro e w20 ⟨rfl, hb⟩; refine ⟨_, rfl, ?_⟩; have n0_ := Am (Kb (g := gb406) (o := .cells #[.int .i64 a1_0, .slice A1_1 l1_1.length c1_1] 33 (0, 0)) (by (with_reducible repeat (first | refine Kn ?_ _ | refine Ke ?_ | refine Ka ?_ _)); exact BK406.out) hb); have n1_ := Am (Bt (by repeat (first | (with_reducible first | exact HB.out | apply Ba | apply Bn | apply Bd | refine Bs ?_ GE406.out) | exact HB.out)) hb); clear BK406; clear HB; have BK406 := n0_; have HB := n1_; clear n0_ n1_; (try clear hb); (try clear hb2); (try clear hk); (try clear hi)))
  go_ret2
  exact ⟨by first | rfl | (simp [*, errW_none, errW_some] <;> rfl), by repeat (first | (with_reducible first | exact HB.out | apply Ba | apply Bn | apply Bd | refine Bs ?_ GE406.out) | exact HB.out)⟩
section
open Go.RowKit
theorem load_run {P : Program} {o : Oper} {a : Act} {W : World} {g : Nat} {cs : Array Value} {t : TypeId} (hg : W.heap[g]? = some (.cells cs t (0, 0))) (n : Nat) (hn : cs.size = n) (ty : TypeId) (x : Operand) (ho : o.op = .load ty x)
  (hx : a.eval x = .pointer (some ⟨g, 0, none⟩)) (d : TypeDesc) (hu : P.underlying ty = some d) (hd : (match d with | .struct _ | .array _ _ => true | _ => false) = true) (hi : (P.info? ty).map (·.size) = some n) :
  (execOp a.eval o).run P W = .ok (.value (.agg cs)) W := by
 subst hn
 unfold execOp
 simp only [ho, hx, Instr.loadAt, Instr.sureAddr, Sem.run_bind, Sem.run_pure, Result.andThen_ok, run_loadVar_row W g t ty cs (0, 0) d hg hu hd hi]
theorem store_run {P : Program} {o : Oper} {a : Act} {W : World} {g : Nat} {cs cs' : Array Value} {t : TypeId} (hg : W.heap[g]? = some (.cells cs t (0, 0))) (n : Nat) (hn : cs.size = n) (hn' : cs'.size = n) (ty : TypeId) (x y : Operand) (ho : o.op = .store ty x y)
  (hx : a.eval x = .pointer (some ⟨g, 0, none⟩)) (hy : a.eval y = .agg cs') (hi : (P.info? ty).map (·.size) = some n) (h1 : cs'.all (·.oneCell') = true) :
  (execOp a.eval o).run P W = .ok .skip (W.setRow g cs') := by
 unfold execOp
 simp only [ho, hx, hy, Instr.storeAt, Instr.sureAddr, Sem.run_bind, Sem.run_pure, Result.andThen_ok, run_storeVar_row W g t ty cs cs' hg (by rw [hn']; exact hi) (by rw [hn, hn']) h1]
theorem kept_setRow (W : World) (g : Nat) (cs : Array Value) : Kept W (W.setRow g cs) (fun k => k = g) := ⟨by simp, fun i _ hi => setRow_other W g i cs hi⟩
theorem below_setRow_ {B g : Nat} {w0 w : World} (hb : Below B w0 w) (hBg : B ≤ g) (cs : Array Value) : Below B w0 (w.setRow g cs) :=
 ⟨hb.os, hb.tape, hb.output, by simpa using hb.size, fun k hk => (setRow_other w g k cs (by omega)).trans (hb.block k hk)⟩
end
def laws_FnAttrFor.Facts (l0 : List Int) (l1 : List Int) : Prop :=
 ((laws_big.f l0 l1 = some true) ∧ True) ∨ ((laws_big.f l0 l1 = some false) ∧ (∃ r1 : Int, ∃ r2 : List (List (S39)), ∃ r3 : Int, ∃ r4 : Int, ∃ r5 : Int, ∃ r6 : Int, ∃ r7 : Int, ∃ r8 : Int, ∃ r9 : Int, (∃ K, spec_DrawAttrFor.f K l0 = some (r1, r2, r3, r4, r5, r6, r7, r8, r9)) ∧ ((∃ r10 : Int, ∃ r11 : List Int, (∃ K, impl_AttrFor.f K r1 r2 r3 r4 r5 r6 r7 r8 r9 = some (r10, r11, true)) ∧ (∃ K, spec_AttrFor.f K r1 r2 r3 r4 r5 r6 r7 r8 r9 = some (r10, r11, true)) ∧ (∃ K, laws_sameAttr.f K r10 r11 r10 r11 = some true) ∧ (∃ K, ∀ k i : Nat, k < r2.length → i < (r2.getD k []).length → ∃ b : Bool, impl_Interfere.f K r3 r4 r5 r6 r7 ((r2.getD k []).getD i z39).f3.f0 ((r2.getD k []).getD i z39).f3.f1 ((r2.getD k []).getD i z39).f3.f2 ((r2.getD k []).getD i z39).f3.f3 ((r2.getD k []).getD i z39).f3.f4 = some (b, true) ∧ (b = true → ¬ ((r2.getD k []).getD i z39).f2 = 0 → ¬ ((k : Int) = r8 ∧ (i : Int) + 1 = r9) → impl_HangsOn.f r1 r10 r11 (k : Int) ((i : Int) + 1) = some (true, true) ∧ ((r2.getD k []).getD i z39).f4.f0 < r10)) ∧ True) ∨ (∃ r12 : Int, ∃ r13 : List Int, (∃ K, impl_AttrFor.f K r1 r2 r3 r4 r5 r6 r7 r8 r9 = some (r12, r13, false)) ∧ (∃ K, spec_AttrFor.f K r1 r2 r3 r4 r5 r6 r7 r8 r9 = some (r12, r13, false)) ∧ (∃ K, laws_sameAttr.f K r12 r13 r12 r13 = some true) ∧ True))))
set_option maxHeartbeats 8000000 in
set_option maxRecDepth 100000 in
theorem laws_FnAttrFor.calls (A0 : Option Addr) (c0 : Nat) (l0 : List Int) (A1 : Option Addr) (c1 : Nat) (l1 : List Int) (w : World) (hr0 : Kd.C (Kd.int .u8) w A0 l0.length l0) (hc0 : l0.length ≤ c0) (hr1 : Kd.C (Kd.int .u8) w A1 l1.length l1) (hc1 : l1.length ≤ c1) (h : laws_FnAttrFor.Facts l0 l1) :
  Calls Try.prog 3 #[.slice A0 l0.length c0, .slice A1 l1.length c1] w fun e w' => e = .returned (.bool true) ∧ Below w.heap.size w w' := by
 unfold laws_FnAttrFor.Facts at h
 have HR0 := Am hr0
 have HC0 := Am hc0
 clear hr0 hc0
 have HR1 := Am hr1
 have HC1 := Am hc1
 clear hr1 hc1
 have HF := Am h
 clear h
 have HB := Am (Below.refl w.heap.size w)
 rcases HF.out with hF | hF
 ·clear HF
  have HF := Am hF
  clear hF
  obtain ⟨h1, hF⟩ := HF.out
  clear HF
  have HF := Am hF
  clear hF
  have H1 := Am h1
  clear h1
  go_enter Try.func3, Try.ntmps3
  go_wp2_with fail
  (refine (laws_big.calls A0 c0 l0 A1 c1 l1 true w (Kd.C_below HR0.out HB.out) HC0.out (Kd.C_below HR1.out HB.out) HC1.out H1.out).mono ?_)
  rintro e w1 ⟨rfl, hd⟩
  have hb := hd.below
  clear hd
  have Z1 : Ad (w.heap.size ≤ w1.heap.size) := ⟨hb.size⟩
  replace HB := Am (below_then HB.out HB.out.size hb)
  clear hb
  go_wp2
  go_ret
  exact ⟨rfl, HB.out⟩
 ·clear HF
  have HF := Am hF
  clear hF
  obtain ⟨h2, hF⟩ := HF.out
  clear HF
  have HF := Am hF
  clear hF
  have H2 := Am h2
  clear h2
  go_enter Try.func3, Try.ntmps3
  go_wp2_with fail
  (refine (laws_big.calls A0 c0 l0 A1 c1 l1 false w (Kd.C_below HR0.out HB.out) HC0.out (Kd.C_below HR1.out HB.out) HC1.out H2.out).mono ?_)
  rintro e w2 ⟨rfl, hd⟩
  have hb := hd.below
  clear hd
  have Z2 : Ad (w.heap.size ≤ w2.heap.size) := ⟨hb.size⟩
  replace HB := Am (below_then HB.out HB.out.size hb)
  clear hb
  obtain ⟨r1, r2, r3, r4, r5, r6, r7, r8, r9, ⟨K3, h3⟩, hF⟩ := HF.out
  clear HF
  have HF := Am hF
  clear hF
  have H3 := Am h3
  clear h3
  go_wp2_with fail
  (refine (spec_DrawAttrFor.calls K3 A0 c0 l0 r1 r2 r3 r4 r5 r6 r7 r8 r9 w2 (Kd.C_below HR0.out HB.out) HC0.out H3.out).mono ?_)
  rintro e w3 ⟨A, rfl, hS0, hb⟩
  have X1 : Ad ((Kd.slice 39 k39).C w3 A r2.length r2) := ⟨hS0⟩
  have Z3 : Ad (w2.heap.size ≤ w3.heap.size) := ⟨hb.size⟩
  replace HB := Am (below_then HB.out HB.out.size hb)
  clear hb hS0
  rcases HF.out with hF | hF
  ·as_aux_lemma =>
    clear HF
    have HF := Am hF
    clear hF
    obtain ⟨r10, r11, ⟨K4, h4⟩, hF⟩ := HF.out
    clear HF
    have HF := Am hF
    clear hF
    have H4 := Am h4
    clear h4
    go_upto_region 4 with (fail)
    refine letC (fun W_ => Below w3.heap.size w3 W_ ∧ W_.heap[w3.heap.size]? = some (.cells #[.int .i64 r1, .slice A r2.length r2.length] 26 (0, 0)) ∧ W_.heap[w3.heap.size + 1]? = some (.cells #[.int .i64 r3, .int .i64 r4, .int .i64 r5, .int .i64 r6, .int .i64 r7] 28 (0, 0))) ?_ ?_
    ·refine ⟨?_, ?_, ?_⟩
     ·repeat (first | exact Below.refl _ _ | apply Ba | refine Bs ?_ (by first | exact Nat.le_refl _ | omega | (simp; done)))
     ·simpa using Ka (blk_new w3 (.cells #[.int .i64 r1, .slice A r2.length r2.length] 26)) (.cells #[.int .i64 r3, .int .i64 r4, .int .i64 r5, .int .i64 r6, .int .i64 r7] 28)
     ·simpa using blk_new (w3.alloc (.cells #[.int .i64 r1, .slice A r2.length r2.length] 26)) (.cells #[.int .i64 r3, .int .i64 r4, .int .i64 r5, .int .i64 r6, .int .i64 r7] 28)
    intro w4 hq_
    obtain ⟨hb, hx0_, hx1_⟩ := hq_
    have Z4 : Ad (w3.heap.size ≤ w4.heap.size) := ⟨hb.size⟩
    replace X1 := Am (Kd.C_below X1.out hb)
    replace HB := Am (below_then HB.out HB.out.size hb)
    clear hb
    have BX1 : Ad (w4.heap[w3.heap.size]? = some (.cells #[.int .i64 r1, .slice A r2.length r2.length] 26 (0, 0))) := ⟨hx0_⟩
    clear hx0_
    have GBX1 : Ad (w3.heap.size < w4.heap.size) := ⟨blk_lt BX1.out⟩
    have BX2 : Ad (w4.heap[w3.heap.size + 1]? = some (.cells #[.int .i64 r3, .int .i64 r4, .int .i64 r5, .int .i64 r6, .int .i64 r7] 28 (0, 0))) := ⟨hx1_⟩
    clear hx1_
    have GBX2 : Ad (w3.heap.size + 1 < w4.heap.size) := ⟨blk_lt BX2.out⟩
    go_wp2_with (first | ((refine Gd (N := 32) rfl ?_); first | refine Kd.event_run rfl (load_run BX1.out 2 rfl 26 _ (by rfl) (by rfl) _ Try.underlying26 rfl (by kernel_rfl)) ?_) | ((refine Gd (N := 33) rfl ?_); first | refine Kd.event_run rfl (load_run BX2.out 5 rfl 28 _ (by rfl) (by rfl) _ Try.underlying28 rfl (by kernel_rfl)) ?_))
    (refine (impl_AttrFor.calls K4 r1 A r2.length r2 r3 r4 r5 r6 r7 r8 r9 r10 r11 true w4 X1.out (Nat.le_refl _) H4.out).mono ?_)
    rintro e w5 ⟨v1_, rfl, hS0, hb⟩
    have X2 : Ad (Kd.R (Kd.int .i64) 3 w5 w.heap.size (fun k => w4.heap.size ≤ k ∧ k < w5.heap.size) v1_ r11) := ⟨Kd.R_mono (Kd.R_lower (Kd.R_bound hS0) HB.out.size) (fun k hk => ⟨hk.2.1, hk.2.2.1⟩)⟩
    have Z5 : Ad (w4.heap.size ≤ w5.heap.size) := ⟨hb.size⟩
    replace X1 := Am (Kd.C_below X1.out hb)
    replace BX1 := Am (Kb BX1.out hb)
    replace BX2 := Am (Kb BX2.out hb)
    replace HB := Am (below_then HB.out HB.out.size hb)
    clear hb hS0
    obtain ⟨A2_, c2_, rfl⟩ := Kd.R_slice X2.out
    obtain ⟨⟨K5, h5⟩, hF⟩ := HF.out
    clear HF
    have HF := Am hF
    clear hF
    have H5 := Am h5
    clear h5
    go_upto_region 5 with (first | ((refine Gd (N := 40) rfl ?_); first | refine Kd.event_run rfl (load_run BX1.out 2 rfl 26 _ (by rfl) (by rfl) _ Try.underlying26 rfl (by kernel_rfl)) ?_) | ((refine Gd (N := 41) rfl ?_); first | refine Kd.event_run rfl (load_run BX2.out 5 rfl 28 _ (by rfl) (by rfl) _ Try.underlying28 rfl (by kernel_rfl)) ?_))
    refine letC (fun W_ => Below w5.heap.size w5 W_ ∧ W_.heap[w5.heap.size]? = some (.cells #[.int .i64 r10, .slice A2_ r11.length c2_] 33 (0, 0))) ?_ ?_
    ·refine ⟨?_, ?_⟩
     ·repeat (first | exact Below.refl _ _ | apply Ba | refine Bs ?_ (by first | exact Nat.le_refl _ | omega | (simp; done)))
     ·exact blk_new w5 (.cells #[.int .i64 r10, .slice A2_ r11.length c2_] 33)
    intro w6 hq_
    obtain ⟨hb, hx0_⟩ := hq_
    have Z6 : Ad (w5.heap.size ≤ w6.heap.size) := ⟨hb.size⟩
    replace X1 := Am (Kd.C_below X1.out hb)
    replace X2 := Am (Kd.R_below X2.out hb)
    replace BX1 := Am (Kb BX1.out hb)
    replace BX2 := Am (Kb BX2.out hb)
    replace HB := Am (below_then HB.out HB.out.size hb)
    clear hb
    have BX3 : Ad (w6.heap[w5.heap.size]? = some (.cells #[.int .i64 r10, .slice A2_ r11.length c2_] 33 (0, 0))) := ⟨hx0_⟩
    clear hx0_
    have GBX3 : Ad (w5.heap.size < w6.heap.size) := ⟨blk_lt BX3.out⟩
    go_wp2_with (first | ((refine Gd (N := 40) rfl ?_); first | refine Kd.event_run rfl (load_run BX1.out 2 rfl 26 _ (by rfl) (by rfl) _ Try.underlying26 rfl (by kernel_rfl)) ?_) | ((refine Gd (N := 41) rfl ?_); first | refine Kd.event_run rfl (load_run BX2.out 5 rfl 28 _ (by rfl) (by rfl) _ Try.underlying28 rfl (by kernel_rfl)) ?_))
    (refine (spec_AttrFor.calls K5 r1 A r2.length r2 r3 r4 r5 r6 r7 r8 r9 r10 r11 true w6 X1.out (Nat.le_refl _) H5.out).mono ?_)
    rintro e w7 ⟨v1_, rfl, hS0, hb⟩
    have X3 : Ad (Kd.R (Kd.int .i64) 3 w7 w.heap.size (fun k => w6.heap.size ≤ k ∧ k < w7.heap.size) v1_ r11) := ⟨Kd.R_mono (Kd.R_lower (Kd.R_bound hS0) HB.out.size) (fun k hk => ⟨hk.2.1, hk.2.2.1⟩)⟩
    have Z7 : Ad (w6.heap.size ≤ w7.heap.size) := ⟨hb.size⟩
    replace X1 := Am (Kd.C_below X1.out hb)
    replace X2 := Am (Kd.R_below X2.out hb)
    replace BX1 := Am (Kb BX1.out hb)
    replace BX2 := Am (Kb BX2.out hb)
    replace BX3 := Am (Kb BX3.out hb)
    replace HB := Am (below_then HB.out HB.out.size hb)
    clear hb hS0
    obtain ⟨A3_, c3_, rfl⟩ := Kd.R_slice X3.out
    obtain ⟨⟨K6, h6⟩, hF⟩ := HF.out
    clear HF
    have HF := Am hF
    clear hF
    have H6 := Am h6
    clear h6
    have qBX3_0 : w7.cell? ⟨w5.heap.size, 0, none⟩ = some (.int .i64 r10) := (Kc BX3.out 0).trans rfl
    have qBX3_1 : w7.cell? ⟨w5.heap.size, 1, none⟩ = some (.slice A2_ r11.length c2_) := (Kc BX3.out 1).trans rfl
    go_upto_region 6 with (first | ((refine Gd (N := 51) rfl ?_); first | refine Kd.event_run rfl (load_run BX3.out 2 rfl 33 _ (by rfl) (by rfl) _ Try.underlying33 rfl (by kernel_rfl)) ?_) | ((refine Gd (N := 52) rfl ?_); first | refine Kd.event_run rfl (load_run BX3.out 2 rfl 33 _ (by rfl) (by rfl) _ Try.underlying33 rfl (by kernel_rfl)) ?_))
    clear qBX3_0 qBX3_1
    refine letC (fun W_ => Below w7.heap.size w7 W_ ∧ W_.heap[w7.heap.size]? = some (.cells #[.int .i64 r10, .slice A3_ r11.length c3_] 33 (0, 0))) ?_ ?_
    ·refine ⟨?_, ?_⟩
     ·repeat (first | exact Below.refl _ _ | apply Ba | refine Bs ?_ (by first | exact Nat.le_refl _ | omega | (simp; done)))
     ·exact blk_new w7 (.cells #[.int .i64 r10, .slice A3_ r11.length c3_] 33)
    intro w8 hq_
    obtain ⟨hb, hx0_⟩ := hq_
    have Z8 : Ad (w7.heap.size ≤ w8.heap.size) := ⟨hb.size⟩
    replace X1 := Am (Kd.C_below X1.out hb)
    replace X2 := Am (Kd.R_below X2.out hb)
    replace X3 := Am (Kd.R_below X3.out hb)
    replace BX1 := Am (Kb BX1.out hb)
    replace BX2 := Am (Kb BX2.out hb)
    replace BX3 := Am (Kb BX3.out hb)
    replace HB := Am (below_then HB.out HB.out.size hb)
    clear hb
    have BX4 : Ad (w8.heap[w7.heap.size]? = some (.cells #[.int .i64 r10, .slice A3_ r11.length c3_] 33 (0, 0))) := ⟨hx0_⟩
    clear hx0_
    have GBX4 : Ad (w7.heap.size < w8.heap.size) := ⟨blk_lt BX4.out⟩
    have qBX3_0 : w8.cell? ⟨w5.heap.size, 0, none⟩ = some (.int .i64 r10) := (Kc BX3.out 0).trans rfl
    have qBX3_1 : w8.cell? ⟨w5.heap.size, 1, none⟩ = some (.slice A2_ r11.length c2_) := (Kc BX3.out 1).trans rfl
    have qBX4_0 : w8.cell? ⟨w7.heap.size, 0, none⟩ = some (.int .i64 r10) := (Kc BX4.out 0).trans rfl
    have qBX4_1 : w8.cell? ⟨w7.heap.size, 1, none⟩ = some (.slice A3_ r11.length c3_) := (Kc BX4.out 1).trans rfl
    go_wp2_with (first | ((refine Gd (N := 51) rfl ?_); first | refine Kd.event_run rfl (load_run BX3.out 2 rfl 33 _ (by rfl) (by rfl) _ Try.underlying33 rfl (by kernel_rfl)) ?_ | refine Kd.event_run rfl (load_run BX4.out 2 rfl 33 _ (by rfl) (by rfl) _ Try.underlying33 rfl (by kernel_rfl)) ?_) | ((refine Gd (N := 52) rfl ?_); first | refine Kd.event_run rfl (load_run BX3.out 2 rfl 33 _ (by rfl) (by rfl) _ Try.underlying33 rfl (by kernel_rfl)) ?_ | refine Kd.event_run rfl (load_run BX4.out 2 rfl 33 _ (by rfl) (by rfl) _ Try.underlying33 rfl (by kernel_rfl)) ?_))
    clear qBX3_0 qBX3_1 qBX4_0 qBX4_1
    (refine (laws_sameAttr.calls K6 r10 A2_ c2_ r11 r10 A3_ c3_ r11 true w8 (Kd.R_reads' X2.out).2.2 (Kd.R_reads' X2.out).2.1 (Kd.R_reads' X3.out).2.2 (Kd.R_reads' X3.out).2.1 H6.out).mono ?_)
    rintro e w9 ⟨rfl, hb⟩
    have Z9 : Ad (w8.heap.size ≤ w9.heap.size) := ⟨hb.size⟩
    replace X1 := Am (Kd.C_below X1.out hb)
    replace X2 := Am (Kd.R_below X2.out hb)
    replace X3 := Am (Kd.R_below X3.out hb)
    replace BX1 := Am (Kb BX1.out hb)
    replace BX2 := Am (Kb BX2.out hb)
    replace BX3 := Am (Kb BX3.out hb)
    replace BX4 := Am (Kb BX4.out hb)
    replace HB := Am (below_then HB.out HB.out.size hb)
    clear hb
    obtain ⟨⟨K7, h7⟩, hF⟩ := HF.out
    clear HF
    have HF := Am hF
    clear hF
    have H7 := Am h7
    clear h7
    have HX := Am H7.out
    have hml : r2.length ≤ 9223372036854775807 := X1.out.2.1
    have HBp : Ad (Below w9.heap.size w9 w9) := ⟨Below.refl _ _⟩
    have qt1 : w9.cell? ⟨w3.heap.size, 1, none⟩ = some (.slice A r2.length r2.length) := (Kc BX1.out 1).trans rfl
    go_wp2
    clear qt1
    go_loopg [60] r2.length (fun gg v60 wr => ∃ k : Nat, k ≤ r2.length ∧ r2.length - k ≤ gg ∧ v60 = .int .i64 k ∧ Ad (Below w9.heap.size w9 wr))
    case atStart => exact ⟨0, Nat.zero_le _, by omega, by first | rfl | simp, HBp⟩
    case round =>
     clear HBp
     obtain ⟨k, hk, hgg, rfl, HBp⟩ := hrel
     by_cases hlt : k < r2.length
     ·have hltz : (k : Int) < (r2.length : Int) := by omega
      obtain ⟨ad, Ay, cy, e9, hy0, hly, hiy⟩ := at_L6 X1.out (k : Int) (by omega) hltz
      subst e9
      have hy0 := (HBp.out.cell (bl_ w9 _ hy0)).trans hy0
      simp only [Int.toNat_natCast] at hy0
      have he : r2.getD k [] = rd_L6 r2 (k : Int) := by unfold rd_L6; rw [Int.toNat_natCast]
      have HF1 : Ad (∀ i : Nat, i < (rd_L6 r2 (k : Int)).length → ∃ b : Bool, impl_Interfere.f K7 r3 r4 r5 r6 r7 ((rd_L6 r2 (k : Int)).getD i z39).f3.f0 ((rd_L6 r2 (k : Int)).getD i z39).f3.f1 ((rd_L6 r2 (k : Int)).getD i z39).f3.f2 ((rd_L6 r2 (k : Int)).getD i z39).f3.f3 ((rd_L6 r2 (k : Int)).getD i z39).f3.f4 = some (b, true) ∧ (b = true → ¬ ((rd_L6 r2 (k : Int)).getD i z39).f2 = 0 → ¬ ((k : Int) = r8 ∧ (i : Int) + 1 = r9) → impl_HangsOn.f r1 r10 r11 (k : Int) ((i : Int) + 1) = some (true, true) ∧ ((rd_L6 r2 (k : Int)).getD i z39).f4.f0 < r10)) := ⟨by have h_ := HX.out k; rw [he] at h_; intro i hi; exact h_ i hlt hi⟩
      have HIY := Am hiy
      clear he hiy
      generalize rd_L6 r2 (k : Int) = y at hy0 hly HIY HF1
      have hmy : y.length ≤ 9223372036854775807 := HIY.out.2.1
      go_wp2
      go_loopg [67] y.length (fun gg2 v67 wr2 => ∃ i : Nat, i ≤ y.length ∧ y.length - i ≤ gg2 ∧ v67 = .int .i64 i ∧ Ad (Below w9.heap.size w9 wr2))
      case atStart => exact ⟨0, Nat.zero_le _, by omega, by first | rfl | simp, HBp⟩
      case round =>
       clear HBp hy0
       obtain ⟨i, hi, hgg2, rfl, HBp⟩ := hrel
       by_cases hlt2 : i < y.length
       ·have hltz2 : (i : Int) < (y.length : Int) := by omega
        obtain ⟨ad2, A9, c9, e9, hx0, hx1, hx2, hx3, hx4, hx5, hx6, hx7, hx8, hx9, hl9, hi9⟩ := at_T39 (Kd.C_below HIY.out HBp.out) (i : Int) (by omega) hltz2
        subst e9
        simp only [Int.toNat_natCast] at hx0 hx1 hx2 hx3 hx4 hx5 hx6 hx7 hx8 hx9
        have he : y.getD i z39 = rd_T39 y (i : Int) := by unfold rd_T39; rw [Int.toNat_natCast]
        obtain ⟨b, hI, hH⟩ := HF1.out i hlt2
        rw [he] at hI hH
        generalize rd_T39 y (i : Int) = x at hx0 hx1 hx2 hx3 hx4 hx5 hx6 hx7 hx8 hx9 hI hH
        have HI := Am hI
        have HH := Am hH
        clear he hI hH hl9 hi9
        go_upto_region 15 with (fail)
        refine letC (fun W_ => Below wr.heap.size wr W_ ∧ W_.heap[wr.heap.size]? = some (.cells #[.int .i64 x.f0, .int .i64 x.f1, .int .i64 x.f2, .int .i64 x.f3.f0, .int .i64 x.f3.f1, .int .i64 x.f3.f2, .int .i64 x.f3.f3, .int .i64 x.f3.f4, .int .i64 x.f4.f0, .slice A9 x.f4.f1.length c9] 39 (0, 0))) ⟨Ba (Below.refl _ _) _, blk_new wr (.cells #[.int .i64 x.f0, .int .i64 x.f1, .int .i64 x.f2, .int .i64 x.f3.f0, .int .i64 x.f3.f1, .int .i64 x.f3.f2, .int .i64 x.f3.f3, .int .i64 x.f3.f4, .int .i64 x.f4.f0, .slice A9 x.f4.f1.length c9] 39)⟩ ?_
        rintro W1 ⟨hb, hbx⟩
        have HB1 := Am (below_then HBp.out HBp.out.size hb)
        have HX1 := Am hbx
        clear hb hbx HBp hx0 hx1 hx2 hx3 hx4 hx5 hx6 hx7 hx8 hx9
        generalize wr.heap.size = gx at HX1
        have qx3 : W1.cell? ⟨gx, 3, none⟩ = some (.int .i64 x.f3.f0) := (Kc HX1.out 3).trans rfl
        have qx4 : W1.cell? ⟨gx, 4, none⟩ = some (.int .i64 x.f3.f1) := (Kc HX1.out 4).trans rfl
        have qx5 : W1.cell? ⟨gx, 5, none⟩ = some (.int .i64 x.f3.f2) := (Kc HX1.out 5).trans rfl
        have qx6 : W1.cell? ⟨gx, 6, none⟩ = some (.int .i64 x.f3.f3) := (Kc HX1.out 6).trans rfl
        have qx7 : W1.cell? ⟨gx, 7, none⟩ = some (.int .i64 x.f3.f4) := (Kc HX1.out 7).trans rfl
        have BC1 := Am (Kb BX2.out HB1.out)
        go_wp2_with (first | ((refine Gd (N := 73) rfl ?_); first | refine Kd.event_run rfl (load_run BC1.out 5 rfl 28 _ (by rfl) (by rfl) _ Try.underlying28 rfl (by kernel_rfl)) ?_))
        refine (impl_Interfere.calls K7 r3 r4 r5 r6 r7 x.f3.f0 x.f3.f1 x.f3.f2 x.f3.f3 x.f3.f4 b true W1 HI.out).mono ?_
        rintro e W2 ⟨rfl, hb⟩
        have HB2 := Am (below_then HB1.out HB1.out.size hb)
        have HX2 := Am (Kb HX1.out hb)
        clear hb HB1 HX1 BC1 HI qx3 qx4 qx5 qx6 qx7
        cases b with
        | false =>
         clear HH
         go_wp2
         go_roundg (y.length - (i + 1))
         case measure => omega
         case rel => exact ⟨i + 1, by omega, by omega, by go_num, HB2⟩
        | true =>
         have qx2 : W2.cell? ⟨gx, 2, none⟩ = some (.int .i64 x.f2) := (Kc HX2.out 2).trans rfl
         by_cases h2 : x.f2 = 0
         ·have e2 : (x.f2 == 0) = true := by rw [h2]; rfl
          have n2 : (x.f2 != 0) = false := by rw [h2]; rfl
          clear HH h2
          go_wp2
          go_roundg (y.length - (i + 1))
          case measure => omega
          case rel => exact ⟨i + 1, by omega, by omega, by go_num, HB2⟩
         ·have e2 : (x.f2 == 0) = false := by rw [beq_eq_false_iff_ne]; exact h2
          have n2 : (x.f2 != 0) = true := by simp [bne, e2]
          by_cases hsk : (k : Int) = r8 ∧ (i : Int) + 1 = r9
          ·have ei : ((k : Int) == r8) = true := by rw [hsk.1]; simp
           have ni : ((k : Int) != r8) = false := by rw [hsk.1]; simp
           have ej : (((i : Int) + 1) == r9) = true := by rw [hsk.2]; simp
           have nj : (((i : Int) + 1) != r9) = false := by rw [hsk.2]; simp
           clear HH h2 hsk
           go_wp2
           go_roundg (y.length - (i + 1))
           case measure => omega
           case rel => exact ⟨i + 1, by omega, by omega, by go_num, HB2⟩
          ·obtain ⟨hg, hs⟩ := HH.out rfl h2 hsk
           have HG := Am hg
           have qt0 : W2.cell? ⟨w3.heap.size, 0, none⟩ = some (.int .i64 r1) := (Kc (Kb BX1.out HB2.out) 0).trans rfl
           have BA2 := Am (Kb BX3.out HB2.out)
           have hsn : ¬ r10 ≤ x.f4.f0 := by omega
           have hsd : decide (r10 ≤ x.f4.f0) = false := decide_eq_false hsn
           clear HH h2 hg hs
           by_cases hi2 : (k : Int) = r8
           ·have ei : ((k : Int) == r8) = true := by rw [hi2]; simp
            have ni : ((k : Int) != r8) = false := by rw [hi2]; simp
            have ej : (((i : Int) + 1) == r9) = false := by rw [beq_eq_false_iff_ne]; exact fun h => hsk ⟨hi2, h⟩
            have nj : (((i : Int) + 1) != r9) = true := by simp [bne, ej]
            clear hsk hi2
            go_wp2_with (first | ((refine Gd (N := 101) rfl ?_); first | refine Kd.event_run rfl (load_run BA2.out 2 rfl 33 _ (by rfl) (by rfl) _ Try.underlying33 rfl (by kernel_rfl)) ?_))
            refine (impl_HangsOn.calls r1 r10 A2_ c2_ r11 (k : Int) ((i : Int) + 1) true true W2 (Kd.C_below ((Kd.R_reads' X2.out).2.2) HB2.out) ((Kd.R_reads' X2.out).2.1) HG.out).mono ?_
            rintro e W3 ⟨rfl, hb⟩
            have HB3 := Am (below_then HB2.out HB2.out.size hb)
            have qa0 : W3.cell? ⟨w5.heap.size, 0, none⟩ = some (.int .i64 r10) := (Kc (Kb BA2.out hb) 0).trans rfl
            have qx8 : W3.cell? ⟨gx, 8, none⟩ = some (.int .i64 x.f4.f0) := (Kc (Kb HX2.out hb) 8).trans rfl
            clear hb HB2 HX2 BA2 qt0 qx2 HG
            go_wp2
            go_roundg (y.length - (i + 1))
            case measure => omega
            case rel => exact ⟨i + 1, by omega, by omega, by go_num, HB3⟩
           ·have ei : ((k : Int) == r8) = false := by rw [beq_eq_false_iff_ne]; exact hi2
            have ni : ((k : Int) != r8) = true := by simp [bne, ei]
            clear hsk hi2
            go_wp2_with (first | ((refine Gd (N := 101) rfl ?_); first | refine Kd.event_run rfl (load_run BA2.out 2 rfl 33 _ (by rfl) (by rfl) _ Try.underlying33 rfl (by kernel_rfl)) ?_))
            refine (impl_HangsOn.calls r1 r10 A2_ c2_ r11 (k : Int) ((i : Int) + 1) true true W2 (Kd.C_below ((Kd.R_reads' X2.out).2.2) HB2.out) ((Kd.R_reads' X2.out).2.1) HG.out).mono ?_
            rintro e W3 ⟨rfl, hb⟩
            have HB3 := Am (below_then HB2.out HB2.out.size hb)
            have qa0 : W3.cell? ⟨w5.heap.size, 0, none⟩ = some (.int .i64 r10) := (Kc (Kb BA2.out hb) 0).trans rfl
            have qx8 : W3.cell? ⟨gx, 8, none⟩ = some (.int .i64 x.f4.f0) := (Kc (Kb HX2.out hb) 8).trans rfl
            clear hb HB2 HX2 BA2 qt0 qx2 HG
            go_wp2
            go_roundg (y.length - (i + 1))
            case measure => omega
            case rel => exact ⟨i + 1, by omega, by omega, by go_num, HB3⟩
       ·have hltz2 : ¬ (i : Int) < (y.length : Int) := by omega
        go_wp2
        go_roundg (r2.length - (k + 1))
        case measure => omega
        case rel => exact ⟨k + 1, by omega, by omega, by go_num, HBp⟩
     ·obtain rfl : k = r2.length := by omega
      have hltz : ¬ (r2.length : Int) < (r2.length : Int) := by omega
      have hb := HBp.out
      clear HBp HX
      have Z10 : Ad (w9.heap.size ≤ wr.heap.size) := ⟨hb.size⟩
      replace X1 := Am (Kd.C_below X1.out hb)
      replace X2 := Am (Kd.R_below X2.out hb)
      replace X3 := Am (Kd.R_below X3.out hb)
      replace BX1 := Am (Kb BX1.out hb)
      replace BX2 := Am (Kb BX2.out hb)
      replace BX3 := Am (Kb BX3.out hb)
      replace BX4 := Am (Kb BX4.out hb)
      replace HB := Am (below_then HB.out HB.out.size hb)
      clear hb
      go_wp2
      go_ret
      exact ⟨rfl, HB.out⟩
  ·as_aux_lemma =>
    clear HF
    have HF := Am hF
    clear hF
    obtain ⟨r12, r13, ⟨K8, h8⟩, hF⟩ := HF.out
    clear HF
    have HF := Am hF
    clear hF
    have H8 := Am h8
    clear h8
    go_upto_region 4 with (fail)
    refine letC (fun W_ => Below w3.heap.size w3 W_ ∧ W_.heap[w3.heap.size]? = some (.cells #[.int .i64 r1, .slice A r2.length r2.length] 26 (0, 0)) ∧ W_.heap[w3.heap.size + 1]? = some (.cells #[.int .i64 r3, .int .i64 r4, .int .i64 r5, .int .i64 r6, .int .i64 r7] 28 (0, 0))) ?_ ?_
    ·refine ⟨?_, ?_, ?_⟩
     ·repeat (first | exact Below.refl _ _ | apply Ba | refine Bs ?_ (by first | exact Nat.le_refl _ | omega | (simp; done)))
     ·simpa using Ka (blk_new w3 (.cells #[.int .i64 r1, .slice A r2.length r2.length] 26)) (.cells #[.int .i64 r3, .int .i64 r4, .int .i64 r5, .int .i64 r6, .int .i64 r7] 28)
     ·simpa using blk_new (w3.alloc (.cells #[.int .i64 r1, .slice A r2.length r2.length] 26)) (.cells #[.int .i64 r3, .int .i64 r4, .int .i64 r5, .int .i64 r6, .int .i64 r7] 28)
    intro w11 hq_
    obtain ⟨hb, hx0_, hx1_⟩ := hq_
    have Z11 : Ad (w3.heap.size ≤ w11.heap.size) := ⟨hb.size⟩
    replace X1 := Am (Kd.C_below X1.out hb)
    replace HB := Am (below_then HB.out HB.out.size hb)
    clear hb
    have BX1 : Ad (w11.heap[w3.heap.size]? = some (.cells #[.int .i64 r1, .slice A r2.length r2.length] 26 (0, 0))) := ⟨hx0_⟩
    clear hx0_
    have GBX1 : Ad (w3.heap.size < w11.heap.size) := ⟨blk_lt BX1.out⟩
    have BX2 : Ad (w11.heap[w3.heap.size + 1]? = some (.cells #[.int .i64 r3, .int .i64 r4, .int .i64 r5, .int .i64 r6, .int .i64 r7] 28 (0, 0))) := ⟨hx1_⟩
    clear hx1_
    have GBX2 : Ad (w3.heap.size + 1 < w11.heap.size) := ⟨blk_lt BX2.out⟩
    go_wp2_with (first | ((refine Gd (N := 32) rfl ?_); first | refine Kd.event_run rfl (load_run BX1.out 2 rfl 26 _ (by rfl) (by rfl) _ Try.underlying26 rfl (by kernel_rfl)) ?_) | ((refine Gd (N := 33) rfl ?_); first | refine Kd.event_run rfl (load_run BX2.out 5 rfl 28 _ (by rfl) (by rfl) _ Try.underlying28 rfl (by kernel_rfl)) ?_))
    (refine (impl_AttrFor.calls K8 r1 A r2.length r2 r3 r4 r5 r6 r7 r8 r9 r12 r13 false w11 X1.out (Nat.le_refl _) H8.out).mono ?_)
    rintro e w12 ⟨v1_, rfl, hS0, hb⟩
    have X4 : Ad (Kd.R (Kd.int .i64) 3 w12 w.heap.size (fun k => w11.heap.size ≤ k ∧ k < w12.heap.size) v1_ r13) := ⟨Kd.R_mono (Kd.R_lower (Kd.R_bound hS0) HB.out.size) (fun k hk => ⟨hk.2.1, hk.2.2.1⟩)⟩
    have Z12 : Ad (w11.heap.size ≤ w12.heap.size) := ⟨hb.size⟩
    replace X1 := Am (Kd.C_below X1.out hb)
    replace BX1 := Am (Kb BX1.out hb)
    replace BX2 := Am (Kb BX2.out hb)
    replace HB := Am (below_then HB.out HB.out.size hb)
    clear hb hS0
    obtain ⟨A4_, c4_, rfl⟩ := Kd.R_slice X4.out
    obtain ⟨⟨K9, h9⟩, hF⟩ := HF.out
    clear HF
    have HF := Am hF
    clear hF
    have H9 := Am h9
    clear h9
    go_upto_region 5 with (first | ((refine Gd (N := 40) rfl ?_); first | refine Kd.event_run rfl (load_run BX1.out 2 rfl 26 _ (by rfl) (by rfl) _ Try.underlying26 rfl (by kernel_rfl)) ?_) | ((refine Gd (N := 41) rfl ?_); first | refine Kd.event_run rfl (load_run BX2.out 5 rfl 28 _ (by rfl) (by rfl) _ Try.underlying28 rfl (by kernel_rfl)) ?_))
    refine letC (fun W_ => Below w12.heap.size w12 W_ ∧ W_.heap[w12.heap.size]? = some (.cells #[.int .i64 r12, .slice A4_ r13.length c4_] 33 (0, 0))) ?_ ?_
    ·refine ⟨?_, ?_⟩
     ·repeat (first | exact Below.refl _ _ | apply Ba | refine Bs ?_ (by first | exact Nat.le_refl _ | omega | (simp; done)))
     ·exact blk_new w12 (.cells #[.int .i64 r12, .slice A4_ r13.length c4_] 33)
    intro w13 hq_
    obtain ⟨hb, hx0_⟩ := hq_
    have Z13 : Ad (w12.heap.size ≤ w13.heap.size) := ⟨hb.size⟩
    replace X1 := Am (Kd.C_below X1.out hb)
    replace X4 := Am (Kd.R_below X4.out hb)
    replace BX1 := Am (Kb BX1.out hb)
    replace BX2 := Am (Kb BX2.out hb)
    replace HB := Am (below_then HB.out HB.out.size hb)
    clear hb
    have BX5 : Ad (w13.heap[w12.heap.size]? = some (.cells #[.int .i64 r12, .slice A4_ r13.length c4_] 33 (0, 0))) := ⟨hx0_⟩
    clear hx0_
    have GBX5 : Ad (w12.heap.size < w13.heap.size) := ⟨blk_lt BX5.out⟩
    go_wp2_with (first | ((refine Gd (N := 40) rfl ?_); first | refine Kd.event_run rfl (load_run BX1.out 2 rfl 26 _ (by rfl) (by rfl) _ Try.underlying26 rfl (by kernel_rfl)) ?_) | ((refine Gd (N := 41) rfl ?_); first | refine Kd.event_run rfl (load_run BX2.out 5 rfl 28 _ (by rfl) (by rfl) _ Try.underlying28 rfl (by kernel_rfl)) ?_))
    (refine (spec_AttrFor.calls K9 r1 A r2.length r2 r3 r4 r5 r6 r7 r8 r9 r12 r13 false w13 X1.out (Nat.le_refl _) H9.out).mono ?_)
    rintro e w14 ⟨v1_, rfl, hS0, hb⟩
    have X5 : Ad (Kd.R (Kd.int .i64) 3 w14 w.heap.size (fun k => w13.heap.size ≤ k ∧ k < w14.heap.size) v1_ r13) := ⟨Kd.R_mono (Kd.R_lower (Kd.R_bound hS0) HB.out.size) (fun k hk => ⟨hk.2.1, hk.2.2.1⟩)⟩
    have Z14 : Ad (w13.heap.size ≤ w14.heap.size) := ⟨hb.size⟩
    replace X1 := Am (Kd.C_below X1.out hb)
    replace X4 := Am (Kd.R_below X4.out hb)
    replace BX1 := Am (Kb BX1.out hb)
    replace BX2 := Am (Kb BX2.out hb)
    replace BX5 := Am (Kb BX5.out hb)
    replace HB := Am (below_then HB.out HB.out.size hb)
    clear hb hS0
    obtain ⟨A5_, c5_, rfl⟩ := Kd.R_slice X5.out
    obtain ⟨⟨K10, h10⟩, hF⟩ := HF.out
    clear HF
    have HF := Am hF
    clear hF
    have H10 := Am h10
    clear h10
    have qBX5_0 : w14.cell? ⟨w12.heap.size, 0, none⟩ = some (.int .i64 r12) := (Kc BX5.out 0).trans rfl
    have qBX5_1 : w14.cell? ⟨w12.heap.size, 1, none⟩ = some (.slice A4_ r13.length c4_) := (Kc BX5.out 1).trans rfl
    go_upto_region 6 with (first | ((refine Gd (N := 51) rfl ?_); first | refine Kd.event_run rfl (load_run BX5.out 2 rfl 33 _ (by rfl) (by rfl) _ Try.underlying33 rfl (by kernel_rfl)) ?_) | ((refine Gd (N := 52) rfl ?_); first | refine Kd.event_run rfl (load_run BX5.out 2 rfl 33 _ (by rfl) (by rfl) _ Try.underlying33 rfl (by kernel_rfl)) ?_))
    clear qBX5_0 qBX5_1
    refine letC (fun W_ => Below w14.heap.size w14 W_ ∧ W_.heap[w14.heap.size]? = some (.cells #[.int .i64 r12, .slice A5_ r13.length c5_] 33 (0, 0))) ?_ ?_
    ·refine ⟨?_, ?_⟩
     ·repeat (first | exact Below.refl _ _ | apply Ba | refine Bs ?_ (by first | exact Nat.le_refl _ | omega | (simp; done)))
     ·exact blk_new w14 (.cells #[.int .i64 r12, .slice A5_ r13.length c5_] 33)
    intro w15 hq_
    obtain ⟨hb, hx0_⟩ := hq_
    have Z15 : Ad (w14.heap.size ≤ w15.heap.size) := ⟨hb.size⟩
    replace X1 := Am (Kd.C_below X1.out hb)
    replace X4 := Am (Kd.R_below X4.out hb)
    replace X5 := Am (Kd.R_below X5.out hb)
    replace BX1 := Am (Kb BX1.out hb)
    replace BX2 := Am (Kb BX2.out hb)
    replace BX5 := Am (Kb BX5.out hb)
    replace HB := Am (below_then HB.out HB.out.size hb)
    clear hb
    have BX6 : Ad (w15.heap[w14.heap.size]? = some (.cells #[.int .i64 r12, .slice A5_ r13.length c5_] 33 (0, 0))) := ⟨hx0_⟩
    clear hx0_
    have GBX6 : Ad (w14.heap.size < w15.heap.size) := ⟨blk_lt BX6.out⟩
    have qBX5_0 : w15.cell? ⟨w12.heap.size, 0, none⟩ = some (.int .i64 r12) := (Kc BX5.out 0).trans rfl
    have qBX5_1 : w15.cell? ⟨w12.heap.size, 1, none⟩ = some (.slice A4_ r13.length c4_) := (Kc BX5.out 1).trans rfl
    have qBX6_0 : w15.cell? ⟨w14.heap.size, 0, none⟩ = some (.int .i64 r12) := (Kc BX6.out 0).trans rfl
    have qBX6_1 : w15.cell? ⟨w14.heap.size, 1, none⟩ = some (.slice A5_ r13.length c5_) := (Kc BX6.out 1).trans rfl
    go_wp2_with (first | ((refine Gd (N := 51) rfl ?_); first | refine Kd.event_run rfl (load_run BX5.out 2 rfl 33 _ (by rfl) (by rfl) _ Try.underlying33 rfl (by kernel_rfl)) ?_ | refine Kd.event_run rfl (load_run BX6.out 2 rfl 33 _ (by rfl) (by rfl) _ Try.underlying33 rfl (by kernel_rfl)) ?_) | ((refine Gd (N := 52) rfl ?_); first | refine Kd.event_run rfl (load_run BX5.out 2 rfl 33 _ (by rfl) (by rfl) _ Try.underlying33 rfl (by kernel_rfl)) ?_ | refine Kd.event_run rfl (load_run BX6.out 2 rfl 33 _ (by rfl) (by rfl) _ Try.underlying33 rfl (by kernel_rfl)) ?_))
    clear qBX5_0 qBX5_1 qBX6_0 qBX6_1
    (refine (laws_sameAttr.calls K10 r12 A4_ c4_ r13 r12 A5_ c5_ r13 true w15 (Kd.R_reads' X4.out).2.2 (Kd.R_reads' X4.out).2.1 (Kd.R_reads' X5.out).2.2 (Kd.R_reads' X5.out).2.1 H10.out).mono ?_)
    rintro e w16 ⟨rfl, hb⟩
    have Z16 : Ad (w15.heap.size ≤ w16.heap.size) := ⟨hb.size⟩
    replace X1 := Am (Kd.C_below X1.out hb)
    replace X4 := Am (Kd.R_below X4.out hb)
    replace X5 := Am (Kd.R_below X5.out hb)
    replace BX1 := Am (Kb BX1.out hb)
    replace BX2 := Am (Kb BX2.out hb)
    replace BX5 := Am (Kb BX5.out hb)
    replace BX6 := Am (Kb BX6.out hb)
    replace HB := Am (below_then HB.out HB.out.size hb)
    clear hb
    go_wp2
    go_ret
    exact ⟨rfl, HB.out⟩
def laws_FnAttrFor.Pure : Prop := ∀ (l0 : List Int) (l1 : List Int), (l0.length ≤ 9223372036854775807 ∧ ∀ y ∈ l0, (Lit.int .u8 y).wf = true) → (l1.length ≤ 9223372036854775807 ∧ ∀ y ∈ l1, (Lit.int .u8 y).wf = true) → laws_FnAttrFor.Facts l0 l1
end Go.Proofs.Ytilmcfdhijdhpaa.QFnAttrFor
