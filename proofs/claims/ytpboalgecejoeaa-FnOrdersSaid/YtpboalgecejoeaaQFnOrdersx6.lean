-- Written by a program of this session (wip/mk.py) over the kit's print: Lean checks it.
import Derived.Test.YtpboalgecejoeaaQFnOrdersx0
import Derived.Test.YtpboalgecejoeaaQFnOrdersx5
namespace Go.Proofs.Ytpboalgecejoeaa.QFnOrders
open Go.Proofs.YtpboalgecejoeaaW.PrintWords.Kd renaming R_alloc → Ra, R_drewN → Rn, R_drew → Rd
open Go.Proofs.YtpboalgecejoeaaW.PrintWords renaming below_alloc → Ba, pw_below_drewN → Bn, below_drew1 → Bd, below_set → Bs, below_size → Bz, below_step → Bt, gate_dst → Gd, gate_callee → Gc, gate_store → Gs
open Go.World renaming block_lt_of_cell? → bl_
open Go.Proofs.YtpboalgecejoeaaW.PrintWords.Aside0 renaming mk → Am
open Go.Proofs.YtpboalgecejoeaaW.PrintWords renaming Aside0 → Ad
open Go.RowKit Go.Proofs.YtpboalgecejoeaaW.PrintWords Go.Proofs.YtpboalgecejoeaaW.PrintLast Go.Proofs.YtpboalgecejoeaaW.PrintMore
attribute [local go_sem] max2_int min2_int max_two min_two max_three min_three max_four min_four   -- for this text's walks alone
set_option linter.unusedVariables false
set_option linter.unusedSimpArgs false
def slices_Contains_int_int.f (k : Nat) (l0 : List Int) (a1 : Int) : Option (Bool) := (slices_Index_int_int.f k l0 a1).bind fun t246 => (some (decide (t246 ≥ 0)))
theorem slices_Contains_int_int.mono : ∀ a0 a1 k, LeO (slices_Contains_int_int.f k a0 a1) (slices_Contains_int_int.f (k + 1) a0 a1) := by
 intro a0 a1 k
 unfold slices_Contains_int_int.f
 repeat' first
   | (with_reducible exact slices_Index_int_int.mono _ _ _)
   | (with_reducible exact LeO.refl _)
   | (with_reducible exact LeO.none _)
   | (with_reducible refine LeO.ite ?_ ?_)
   | (with_reducible refine LeO.bind ?_ (fun _ => ?_))
   | exact slices_Index_int_int.mono _ _ _
   | exact LeO.none _
   | refine LeO.ite ?_ ?_
   | refine LeO.bind ?_ (fun _ => ?_)
set_option maxHeartbeats 8000000 in
set_option maxRecDepth 100000 in
theorem slices_Contains_int_int.calls (k : Nat) (A0 : Option Addr) (c0 : Nat) (l0 : List Int) (a1 : Int) (r : Bool) (w : World) (hr0 : Kd.C (Kd.int .i64) w A0 l0.length l0) (hc0 : l0.length ≤ c0) (h : slices_Contains_int_int.f k l0 a1 = some r) :
  Calls Try.prog 57 #[.slice A0 l0.length c0, .int .i64 a1] w fun e w' => e = .returned (.bool r) ∧ Drawn0 w w' := by
 have HR0 := Am hr0
 have HC0 := Am hc0
 clear hr0 hc0
 have H : ((slices_Index_int_int.f k l0 a1).bind fun t246 => (some (decide (t246 ≥ 0)))) = some r := h
 clear h
 replace H := Option.bind_eq_some_iff.mp H
 obtain ⟨t246, A30, H⟩ := H
 replace H : (some (decide (t246 ≥ 0))) = some r := H
 have A3 := Am A30
 clear A30
 obtain rfl := Option.some.inj H
 go_enter Try.func57, Try.ntmps57
 go_wp2_with (first | ((refine Gc (f := 110) rfl ?_); refine goesL_ (some 7) rfl rfl Try.func110 (by kernel_rfl) rfl #[.slice A0 l0.length c0, .int .i64 a1] rfl (by first | rfl | (simp only [List.map_toArray, List.map_cons, List.map_nil]; first | done | rfl)) ?_; (with_reducible refine (slices_Index_int_int.calls k _ _ l0 a1 t246 _ ?side1 ?side2 A3.out).mono ?_); (case side1 => repeat (first | exact HR0.out | (with_reducible refine Kd.C_alloc ?_ _) | (with_reducible refine Kd.C_drewN ?_ _) | (with_reducible refine Kd.C_drew ?_))); (case side2 => exact HC0.out); rintro e w' ⟨rfl, ⟨nd, rfl⟩⟩; refine ⟨_, rfl, ?_⟩))
 go_ret
 exact ⟨by first | rfl | (simp; done) | (simp [*]; done), by repeat (first | exact Drawn0.refl _ | apply Drawn0.step)⟩
def impl_areKeys.l0 : Nat → List (List Int) → List Int → List Int → Int → Int → Option (Bool)
 | 0, _, _, _, _, _ => none
 | k + 1, x0, x1, x7, x8, x9 => if x9 < x8 then (if 0 ≤ x9 then (if x9 < (x7.length : Int) then ((impl_within.f (rd x7 x9) 0 999999).bind fun t249 => (if t249 = true then (if x9 ≤ (x1.length : Int) then ((slices_Contains_int_int.f k (x1.take (x9 : Int).toNat) (rd x7 x9)).bind fun t251 => (if t251 = true then (some false) else (impl_areKeys.l0 k x0 x1 x7 x8 (wrap64 (x9 + 1))))) else (none)) else (some false))) else (none)) else (none)) else ((impl_GoodGraph.f x0).bind fun t247 => (if t247 = true then (some ((x1.length : Int) == (x0.length : Int))) else (some false)))
def impl_areKeys.f (k : Nat) (l0 : List (List Int)) (l1 : List Int) : Option (Bool) := impl_areKeys.l0 k l0 l1 l1 (l1.length : Int) 0
theorem impl_areKeys.mono_l : ∀ k, (∀ y0 y1 y2 y3 y4, LeO (impl_areKeys.l0 k y0 y1 y2 y3 y4) (impl_areKeys.l0 (k + 1) y0 y1 y2 y3 y4))
 | 0 => fun _ _ _ _ _ r h => by simp [impl_areKeys.l0] at h
 | k + 1 => by
  have ih0 := impl_areKeys.mono_l k
  ·intro y0 y1 y2 y3 y4
   unfold impl_areKeys.l0
   repeat' first
   | (with_reducible exact ih0 _ _ _ _ _)
   | (with_reducible exact slices_Contains_int_int.mono _ _ _)
   | (with_reducible exact LeO.refl _)
   | (with_reducible exact LeO.none _)
   | (with_reducible refine LeO.ite ?_ ?_)
   | (with_reducible refine LeO.bind ?_ (fun _ => ?_))
   | exact ih0 _ _ _ _ _
   | exact slices_Contains_int_int.mono _ _ _
   | exact LeO.none _
   | refine LeO.ite ?_ ?_
   | refine LeO.bind ?_ (fun _ => ?_)
theorem impl_areKeys.mono : ∀ a0 a1 k, LeO (impl_areKeys.f k a0 a1) (impl_areKeys.f (k + 1) a0 a1) := by
 intro a0 a1 k
 have ih0 := impl_areKeys.mono_l k
 unfold impl_areKeys.f
 repeat' first
   | (with_reducible exact ih0 _ _ _ _ _)
   | (with_reducible exact slices_Contains_int_int.mono _ _ _)
   | (with_reducible exact LeO.refl _)
   | (with_reducible exact LeO.none _)
   | (with_reducible refine LeO.ite ?_ ?_)
   | (with_reducible refine LeO.bind ?_ (fun _ => ?_))
   | exact ih0 _ _ _ _ _
   | exact slices_Contains_int_int.mono _ _ _
   | exact LeO.none _
   | refine LeO.ite ?_ ?_
   | refine LeO.bind ?_ (fun _ => ?_)
set_option maxHeartbeats 8000000 in
set_option maxRecDepth 100000 in
theorem impl_areKeys.calls (k : Nat) (A0 : Option Addr) (c0 : Nat) (l0 : List (List Int)) (A1 : Option Addr) (c1 : Nat) (l1 : List Int) (r : Bool) (w : World) (hr0 : Kd.C (Kd.slice 3 (Kd.int .i64)) w A0 l0.length l0) (hc0 : l0.length ≤ c0) (hr1 : Kd.C (Kd.int .i64) w A1 l1.length l1) (hc1 : l1.length ≤ c1) (h : impl_areKeys.f k l0 l1 = some r) :
  Calls Try.prog 55 #[.slice A0 l0.length c0, .slice A1 l1.length c1] w fun e w' => e = .returned (.bool r) ∧ Below w.heap.size w w' := by
 have HR0 := Am hr0
 have HC0 := Am hc0
 clear hr0 hc0
 have HR1 := Am hr1
 have HC1 := Am hc1
 clear hr1 hc1
 have HB := Am (Below.refl w.heap.size w)
 have H : (impl_areKeys.l0 k l0 l1 l1 (l1.length : Int) 0) = some r := h
 clear h
 have H' := Am H
 clear H
 go_enter Try.func55, Try.ntmps55
 go_wp2
 go_loopg [9] k (fun kq v9 w' => ∃ (x9_1 : Int), v9 = .int .i64 x9_1 ∧ Ad (impl_areKeys.l0 kq l0 l1 l1 (l1.length : Int) x9_1 = some r) ∧ Ad (kq ≤ k) ∧ Ad (Below w.heap.size w w'))
 case atStart => exact ⟨(0), (by first | rfl | (simp; done) | (simp [*]; done)), H', ⟨Nat.le_refl _⟩, ⟨by repeat (first | exact HB.out | apply Ba | apply Bn | apply Bd)⟩⟩
 case round =>
  clear H'
  try clear c1
  try clear p2
  obtain ⟨x9_1, rfl, HA, HK1, HB⟩ := hrel
  cases gk with
  | zero => exact absurd HA.out (by simp [impl_areKeys.l0])
  | succ k1 =>
   have H := HA.out
   clear HA
   simp only [impl_areKeys.l0] at H
   by_cases c3 : x9_1 < (l1.length : Int)
   ·rw [if_pos c3] at H
    have c3b0 : decide (x9_1 < (l1.length : Int)) = true := decide_eq_true c3
    clear c3
    by_cases c4 : 0 ≤ x9_1
    ·rw [if_pos c4] at H
     have c4b0 : decide (0 ≤ x9_1) = true := decide_eq_true c4
     clear c4
     by_cases c5 : x9_1 < (l1.length : Int)
     ·rw [if_pos c5] at H
      have c5b0 : decide (x9_1 < (l1.length : Int)) = true := decide_eq_true c5
      clear c5
      replace H := Option.bind_eq_some_iff.mp H
      obtain ⟨t249, A60, H⟩ := H
      replace H : (if t249 = true then (if x9_1 ≤ (l1.length : Int) then ((slices_Contains_int_int.f k1 (l1.take (x9_1 : Int).toNat) (rd l1 x9_1)).bind fun t251 => (if t251 = true then (some false) else (impl_areKeys.l0 k1 l0 l1 l1 (l1.length : Int) (wrap64 (x9_1 + 1))))) else (none)) else (some false)) = some r := H
      have A6 := Am A60
      clear A60
      by_cases c7 : t249 = true
      ·subst c7
       have H1 : (if x9_1 ≤ (l1.length : Int) then ((slices_Contains_int_int.f k1 (l1.take (x9_1 : Int).toNat) (rd l1 x9_1)).bind fun t251 => (if t251 = true then (some false) else (impl_areKeys.l0 k1 l0 l1 l1 (l1.length : Int) (wrap64 (x9_1 + 1))))) else (none)) = some r := by rw [if_pos rfl] at H; exact H
       clear H
       have H := H1
       clear H1
       have c8b0 := eq_true (of_decide_eq_true (by assumption) : 0 ≤ x9_1)
       by_cases c9 : x9_1 ≤ (l1.length : Int)
       ·rw [if_pos c9] at H
        have c9b0 := eq_true c9
        have c9b1 : decide (x9_1 ≤ (l1.length : Int)) = true := decide_eq_true c9
        clear c9
        replace H := Option.bind_eq_some_iff.mp H
        obtain ⟨t251, A100, H⟩ := H
        replace H : (if t251 = true then (some false) else (impl_areKeys.l0 k1 l0 l1 l1 (l1.length : Int) (wrap64 (x9_1 + 1)))) = some r := H
        have A10 := Am A100
        clear A100
        by_cases c11 : t251 = true
        ·subst c11
         have H1 : (some false) = some r := by rw [if_pos rfl] at H; exact H
         clear H
         have H := H1
         clear H1
         obtain rfl := Option.some.inj H
         have p248 : 0 ≤ (x9_1 : Int) := of_decide_eq_true (by assumption)
         have q248 : x9_1 < (l1.length : Int) := of_decide_eq_true (by assumption)
         obtain ⟨ad248, e248, hx248_0⟩ := Kd.at_int HR1.out x9_1 p248 q248
         cases e248
         replace hx248_0 := (HB.out.cell (bl_ w _ hx248_0)).trans hx248_0
         replace p248 := eq_true p248
         replace q248 := eq_true q248
         go_wp2_with (first | ((refine Gc (f := 68) rfl ?_); refine goesL_ (some 15) rfl rfl Try.func68 (by kernel_rfl) rfl #[.int .i64 (rd l1 x9_1), .int .i64 0, .int .i64 999999] rfl (by first | rfl | (simp only [List.map_toArray, List.map_cons, List.map_nil]; first | done | rfl)) ?_; (with_reducible refine (impl_within.calls (rd l1 x9_1) 0 999999 true _ A6.out).mono ?_); rintro e w' ⟨rfl, ⟨nd, rfl⟩⟩; refine ⟨_, rfl, ?_⟩; obtain ⟨i012, hi012, _, hsz12, _⟩ := info_parts info3; obtain ⟨hcut12, hA12, hC12⟩ := print_take_of (P := Try.prog) (Value.int .i64) 0 23 3 .i64 Try.underlying23 hi012 hsz12 (some ad248) c1 l1 x9_1 (of_decide_eq_true (by assumption)) (of_decide_eq_true (by assumption)) HC1.out; have HR250 := Am (Kd.C_of_reads (h1 := fun _ => rfl) (hA12 _ (Kd.reads_of_C HR1.out))); have HC250 := Am hC12; clear hA12 hC12 hi012 hsz12) | (go_at_call 57; (try rw [show (x9_1 : Int).toNat = (l1.take (x9_1 : Int).toNat).length from (by have h1_ : x9_1 ≤ (l1.length : Int) := of_decide_eq_true (by assumption); rw [List.length_take]; omega)]); (with_reducible refine (slices_Contains_int_int.calls k1 _ _ (l1.take (x9_1 : Int).toNat) (rd l1 x9_1) true _ ?side1 ?side2 A10.out).mono ?_); (case side1 => repeat (first | exact (Kd.C_below HR250.out (by repeat (first | exact HB.out | apply Ba | apply Bn | apply Bd))) | (with_reducible refine Kd.C_alloc ?_ _) | (with_reducible refine Kd.C_drewN ?_ _) | (with_reducible refine Kd.C_drew ?_))); (case side2 => exact HC250.out); rintro e w' ⟨rfl, ⟨nd, rfl⟩⟩))
         go_ret
         exact ⟨by first | rfl | (simp [*, errW_none, errW_some] <;> rfl), by repeat (first | exact HB.out | apply Ba | apply Bn | apply Bd)⟩
        ·replace c11 := Bool.eq_false_iff.mpr c11
         subst c11
         have H1 : (impl_areKeys.l0 k1 l0 l1 l1 (l1.length : Int) (wrap64 (x9_1 + 1))) = some r := by rw [if_neg (show ¬ (false = true) by decide)] at H; exact H
         clear H
         have H := H1
         clear H1
         have H' := Am H
         clear H
         have p248 : 0 ≤ (x9_1 : Int) := of_decide_eq_true (by assumption)
         have q248 : x9_1 < (l1.length : Int) := of_decide_eq_true (by assumption)
         obtain ⟨ad248, e248, hx248_0⟩ := Kd.at_int HR1.out x9_1 p248 q248
         cases e248
         replace hx248_0 := (HB.out.cell (bl_ w _ hx248_0)).trans hx248_0
         replace p248 := eq_true p248
         replace q248 := eq_true q248
         go_wp2_with (first | ((refine Gc (f := 68) rfl ?_); refine goesL_ (some 15) rfl rfl Try.func68 (by kernel_rfl) rfl #[.int .i64 (rd l1 x9_1), .int .i64 0, .int .i64 999999] rfl (by first | rfl | (simp only [List.map_toArray, List.map_cons, List.map_nil]; first | done | rfl)) ?_; (with_reducible refine (impl_within.calls (rd l1 x9_1) 0 999999 true _ A6.out).mono ?_); rintro e w' ⟨rfl, ⟨nd, rfl⟩⟩; refine ⟨_, rfl, ?_⟩; obtain ⟨i013, hi013, _, hsz13, _⟩ := info_parts info3; obtain ⟨hcut13, hA13, hC13⟩ := print_take_of (P := Try.prog) (Value.int .i64) 0 23 3 .i64 Try.underlying23 hi013 hsz13 (some ad248) c1 l1 x9_1 (of_decide_eq_true (by assumption)) (of_decide_eq_true (by assumption)) HC1.out; have HR250 := Am (Kd.C_of_reads (h1 := fun _ => rfl) (hA13 _ (Kd.reads_of_C HR1.out))); have HC250 := Am hC13; clear hA13 hC13 hi013 hsz13) | (go_at_call 57; (try rw [show (x9_1 : Int).toNat = (l1.take (x9_1 : Int).toNat).length from (by have h1_ : x9_1 ≤ (l1.length : Int) := of_decide_eq_true (by assumption); rw [List.length_take]; omega)]); (with_reducible refine (slices_Contains_int_int.calls k1 _ _ (l1.take (x9_1 : Int).toNat) (rd l1 x9_1) false _ ?side1 ?side2 A10.out).mono ?_); (case side1 => repeat (first | exact (Kd.C_below HR250.out (by repeat (first | exact HB.out | apply Ba | apply Bn | apply Bd))) | (with_reducible refine Kd.C_alloc ?_ _) | (with_reducible refine Kd.C_drewN ?_ _) | (with_reducible refine Kd.C_drew ?_))); (case side2 => exact HC250.out); rintro e w' ⟨rfl, ⟨nd, rfl⟩⟩))
         go_roundg k1
         case measure => have := HK1.out; omega
         case rel => exact ⟨(wrap64 (x9_1 + 1)), (by first | rfl | (simp; done) | (simp [*]; done)), H', ⟨by have := HK1.out; omega⟩, ⟨by repeat (first | exact HB.out | apply Ba | apply Bn | apply Bd)⟩⟩
       ·rw [if_neg c9] at H
        exact absurd H (by simp)
      ·replace c7 := Bool.eq_false_iff.mpr c7
       subst c7
       have H1 : (some false) = some r := by rw [if_neg (show ¬ (false = true) by decide)] at H; exact H
       clear H
       have H := H1
       clear H1
       obtain rfl := Option.some.inj H
       have p248 : 0 ≤ (x9_1 : Int) := of_decide_eq_true (by assumption)
       have q248 : x9_1 < (l1.length : Int) := of_decide_eq_true (by assumption)
       obtain ⟨ad248, e248, hx248_0⟩ := Kd.at_int HR1.out x9_1 p248 q248
       cases e248
       replace hx248_0 := (HB.out.cell (bl_ w _ hx248_0)).trans hx248_0
       replace p248 := eq_true p248
       replace q248 := eq_true q248
       go_wp2_with (first | ((refine Gc (f := 68) rfl ?_); refine goesL_ (some 15) rfl rfl Try.func68 (by kernel_rfl) rfl #[.int .i64 (rd l1 x9_1), .int .i64 0, .int .i64 999999] rfl (by first | rfl | (simp only [List.map_toArray, List.map_cons, List.map_nil]; first | done | rfl)) ?_; (with_reducible refine (impl_within.calls (rd l1 x9_1) 0 999999 false _ A6.out).mono ?_); rintro e w' ⟨rfl, ⟨nd, rfl⟩⟩; refine ⟨_, rfl, ?_⟩))
       go_ret
       exact ⟨by first | rfl | (simp [*, errW_none, errW_some] <;> rfl), by repeat (first | exact HB.out | apply Ba | apply Bn | apply Bd)⟩
     ·rw [if_neg c5] at H
      exact absurd H (by simp)
    ·rw [if_neg c4] at H
     exact absurd H (by simp)
   ·rw [if_neg c3] at H
    have c3b0 : decide (x9_1 < (l1.length : Int)) = false := decide_eq_false c3
    clear c3
    replace H := Option.bind_eq_some_iff.mp H
    obtain ⟨t247, A140, H⟩ := H
    replace H : (if t247 = true then (some ((l1.length : Int) == (l0.length : Int))) else (some false)) = some r := H
    have A14 := Am A140
    clear A140
    by_cases c15 : t247 = true
    ·subst c15
     have H1 : (some ((l1.length : Int) == (l0.length : Int))) = some r := by rw [if_pos rfl] at H; exact H
     clear H
     have H := H1
     clear H1
     obtain rfl := Option.some.inj H
     go_wp2_with (first | ((refine Gc (f := 28) rfl ?_); refine goesL_ (some 26) rfl rfl Try.func28 (by kernel_rfl) rfl #[.slice A0 l0.length c0] rfl (by first | rfl | (simp only [List.map_toArray, List.map_cons, List.map_nil]; first | done | rfl)) ?_; (with_reducible refine (impl_GoodGraph.calls _ _ l0 true _ ?side1 ?side2 A14.out).mono ?_); (case side1 => repeat (first | exact (Kd.C_below HR0.out HB.out) | (with_reducible refine Kd.C_alloc ?_ _) | (with_reducible refine Kd.C_drewN ?_ _) | (with_reducible refine Kd.C_drew ?_))); (case side2 => exact HC0.out); rintro e w16 ⟨rfl, hb⟩; refine ⟨_, rfl, ?_⟩; have n0_ := Am (Bt (by repeat (first | exact HB.out | apply Ba | apply Bn | apply Bd)) hb); clear HB; have HB := n0_; clear n0_; (try clear hb); (try clear hb2); (try clear hk); (try clear hi)))
     go_ret
     exact ⟨by first | rfl | (simp [*, errW_none, errW_some] <;> rfl), by repeat (first | exact HB.out | apply Ba | apply Bn | apply Bd)⟩
    ·replace c15 := Bool.eq_false_iff.mpr c15
     subst c15
     have H1 : (some false) = some r := by rw [if_neg (show ¬ (false = true) by decide)] at H; exact H
     clear H
     have H := H1
     clear H1
     obtain rfl := Option.some.inj H
     go_wp2_with (first | ((refine Gc (f := 28) rfl ?_); refine goesL_ (some 26) rfl rfl Try.func28 (by kernel_rfl) rfl #[.slice A0 l0.length c0] rfl (by first | rfl | (simp only [List.map_toArray, List.map_cons, List.map_nil]; first | done | rfl)) ?_; (with_reducible refine (impl_GoodGraph.calls _ _ l0 false _ ?side1 ?side2 A14.out).mono ?_); (case side1 => repeat (first | exact (Kd.C_below HR0.out HB.out) | (with_reducible refine Kd.C_alloc ?_ _) | (with_reducible refine Kd.C_drewN ?_ _) | (with_reducible refine Kd.C_drew ?_))); (case side2 => exact HC0.out); rintro e w17 ⟨rfl, hb⟩; refine ⟨_, rfl, ?_⟩; have n0_ := Am (Bt (by repeat (first | exact HB.out | apply Ba | apply Bn | apply Bd)) hb); clear HB; have HB := n0_; clear n0_; (try clear hb); (try clear hb2); (try clear hk); (try clear hi)))
     go_ret
     exact ⟨by first | rfl | (simp [*, errW_none, errW_some] <;> rfl), by repeat (first | exact HB.out | apply Ba | apply Bn | apply Bd)⟩
mutual
def impl_reached.l0 : Nat → List (List Int) → List Bool → List Int → Option (List Int)
 | 0, _, _, _ => none
 | k + 1, x0, x5, x6 => if (x6.length : Int) > 0 then (if 0 < (x6.length : Int) then (if 0 ≤ (rd x6 0) then (if (rd x6 0) < (x0.length : Int) then (impl_reached.l1 k x0 x5 x6 (rd_L1 x0 (rd x6 0)) ((rd_L1 x0 (rd x6 0)).length : Int) 0) else (none)) else (none)) else (none)) else (impl_reached.l2 k (([] : List Int)) x5 (x5.length : Int) 0)
def impl_reached.l1 : Nat → List (List Int) → List Bool → List Int → List Int → Int → Int → Option (List Int)
 | 0, _, _, _, _, _, _ => none
 | k + 1, x0, x5, x6, x30, x31, x32 => if x32 < x31 then (if 0 ≤ x32 then (if x32 < (x30.length : Int) then (if 0 ≤ (rd x30 x32) then (if (rd x30 x32) < (x5.length : Int) then (if (rdOf false x5 (rd x30 x32) = true) then (impl_reached.l1 k x0 x5 x6 x30 x31 (wrap64 (x32 + 1))) else (if x6.length < 17592186044416 then (impl_reached.l1 k x0 (x5.set ((rd x30 x32) : Int).toNat true) (x6 ++ [rd x30 x32]) x30 x31 (wrap64 (x32 + 1))) else (none))) else (none)) else (none)) else (none)) else (none)) else (if 1 ≤ (x6.length : Int) then (impl_reached.l0 k x0 x5 (x6.drop (1 : Int).toNat)) else (none))
def impl_reached.l2 : Nat → List Int → List Bool → Int → Int → Option (List Int)
 | 0, _, _, _, _ => none
 | k + 1, x9, x50, x51, x52 => if x52 < x51 then (if 0 ≤ x52 then (if x52 < (x50.length : Int) then (if rdOf false x50 x52 = true then (if x9.length < 17592186044416 then (impl_reached.l2 k (x9 ++ [x52]) x50 x51 (wrap64 (x52 + 1))) else (none)) else (impl_reached.l2 k x9 x50 x51 (wrap64 (x52 + 1)))) else (none)) else (none)) else (some x9)
end
def impl_reached.f (k : Nat) (l0 : List (List Int)) (a1 : Int) : Option (List Int) := if 0 ≤ (l0.length : Int) then (if ((l0.length : Int) : Int).toNat ≤ 281474976710656 then ((some (List.replicate ((l0.length : Int) : Int).toNat false : List Bool)).bind fun y252 => (if 0 ≤ a1 then (if a1 < (y252.length : Int) then (impl_reached.l0 k l0 (y252.set (a1 : Int).toNat true) (([a1] : List Int))) else (none)) else (none))) else (none)) else (none)
theorem impl_reached.mono_l : ∀ k, (∀ y0 y1 y2, LeO (impl_reached.l0 k y0 y1 y2) (impl_reached.l0 (k + 1) y0 y1 y2)) ∧ (∀ y0 y1 y2 y3 y4 y5, LeO (impl_reached.l1 k y0 y1 y2 y3 y4 y5) (impl_reached.l1 (k + 1) y0 y1 y2 y3 y4 y5)) ∧ (∀ y0 y1 y2 y3, LeO (impl_reached.l2 k y0 y1 y2 y3) (impl_reached.l2 (k + 1) y0 y1 y2 y3))
 | 0 => ⟨fun _ _ _ r h => by simp [impl_reached.l0] at h, fun _ _ _ _ _ _ r h => by simp [impl_reached.l1] at h, fun _ _ _ _ r h => by simp [impl_reached.l2] at h⟩
 | k + 1 => by
  obtain ⟨ih0, ih1, ih2⟩ := impl_reached.mono_l k
  refine ⟨?_, ?_, ?_⟩
  ·intro y0 y1 y2
   unfold impl_reached.l0
   repeat' first
   | (with_reducible exact ih0 _ _ _)
   | (with_reducible exact ih1 _ _ _ _ _ _)
   | (with_reducible exact ih2 _ _ _ _)
   | (with_reducible exact LeO.refl _)
   | (with_reducible exact LeO.none _)
   | (with_reducible refine LeO.ite ?_ ?_)
   | (with_reducible refine LeO.bind ?_ (fun _ => ?_))
   | exact ih0 _ _ _
   | exact ih1 _ _ _ _ _ _
   | exact ih2 _ _ _ _
   | exact LeO.none _
   | refine LeO.ite ?_ ?_
   | refine LeO.bind ?_ (fun _ => ?_)
  ·intro y0 y1 y2 y3 y4 y5
   unfold impl_reached.l1
   repeat' first
   | (with_reducible exact ih0 _ _ _)
   | (with_reducible exact ih1 _ _ _ _ _ _)
   | (with_reducible exact ih2 _ _ _ _)
   | (with_reducible exact LeO.refl _)
   | (with_reducible exact LeO.none _)
   | (with_reducible refine LeO.ite ?_ ?_)
   | (with_reducible refine LeO.bind ?_ (fun _ => ?_))
   | exact ih0 _ _ _
   | exact ih1 _ _ _ _ _ _
   | exact ih2 _ _ _ _
   | exact LeO.none _
   | refine LeO.ite ?_ ?_
   | refine LeO.bind ?_ (fun _ => ?_)
  ·intro y0 y1 y2 y3
   unfold impl_reached.l2
   repeat' first
   | (with_reducible exact ih0 _ _ _)
   | (with_reducible exact ih1 _ _ _ _ _ _)
   | (with_reducible exact ih2 _ _ _ _)
   | (with_reducible exact LeO.refl _)
   | (with_reducible exact LeO.none _)
   | (with_reducible refine LeO.ite ?_ ?_)
   | (with_reducible refine LeO.bind ?_ (fun _ => ?_))
   | exact ih0 _ _ _
   | exact ih1 _ _ _ _ _ _
   | exact ih2 _ _ _ _
   | exact LeO.none _
   | refine LeO.ite ?_ ?_
   | refine LeO.bind ?_ (fun _ => ?_)
theorem impl_reached.mono : ∀ a0 a1 k, LeO (impl_reached.f k a0 a1) (impl_reached.f (k + 1) a0 a1) := by
 intro a0 a1 k
 obtain ⟨ih0, ih1, ih2⟩ := impl_reached.mono_l k
 unfold impl_reached.f
 repeat' first
   | (with_reducible exact ih0 _ _ _)
   | (with_reducible exact ih1 _ _ _ _ _ _)
   | (with_reducible exact ih2 _ _ _ _)
   | (with_reducible exact LeO.refl _)
   | (with_reducible exact LeO.none _)
   | (with_reducible refine LeO.ite ?_ ?_)
   | (with_reducible refine LeO.bind ?_ (fun _ => ?_))
   | exact ih0 _ _ _
   | exact ih1 _ _ _ _ _ _
   | exact ih2 _ _ _ _
   | exact LeO.none _
   | refine LeO.ite ?_ ?_
   | refine LeO.bind ?_ (fun _ => ?_)
set_option maxHeartbeats 8000000 in
set_option maxRecDepth 100000 in
theorem impl_reached.calls (k : Nat) (A0 : Option Addr) (c0 : Nat) (l0 : List (List Int)) (a1 : Int) (r : List Int) (w : World) (hr0 : Kd.C (Kd.slice 3 (Kd.int .i64)) w A0 l0.length l0) (hc0 : l0.length ≤ c0) (h : impl_reached.f k l0 a1 = some r) :
  Calls Try.prog 58 #[.slice A0 l0.length c0, .int .i64 a1] w fun e w' => ∃ v0_ : Value, e = .returned (v0_) ∧ Kd.R (Kd.int .i64) 3 w' w.heap.size (fun _ => True) v0_ r ∧ Below w.heap.size w w' := by
 have HR0 := Am hr0
 have HC0 := Am hc0
 clear hr0 hc0
 have HB := Am (Below.refl w.heap.size w)
 have H : (if 0 ≤ (l0.length : Int) then (if ((l0.length : Int) : Int).toNat ≤ 281474976710656 then ((some (List.replicate ((l0.length : Int) : Int).toNat false : List Bool)).bind fun y252 => (if 0 ≤ a1 then (if a1 < (y252.length : Int) then (impl_reached.l0 k l0 (y252.set (a1 : Int).toNat true) (([a1] : List Int))) else (none)) else (none))) else (none)) else (none)) = some r := h
 clear h
 by_cases c3 : 0 ≤ (l0.length : Int)
 ·rw [if_pos c3] at H
  have c3b0 := eq_true c3
  have c3b1 : decide (0 ≤ (l0.length : Int)) = true := decide_eq_true c3
  clear c3
  by_cases c4 : ((l0.length : Int) : Int).toNat ≤ 281474976710656
  ·rw [if_pos c4] at H
   have c4b0 := eq_true c4
   have c4b1 : decide (((l0.length : Int) : Int).toNat ≤ 281474976710656) = true := decide_eq_true c4
   clear c4
   obtain ⟨y252, hy252⟩ : ∃ y_ : List Bool, y_ = (List.replicate ((l0.length : Int) : Int).toNat false) := ⟨_, rfl⟩
   replace H : (if 0 ≤ a1 then (if a1 < (y252.length : Int) then (impl_reached.l0 k l0 (y252.set (a1 : Int).toNat true) (([a1] : List Int))) else (none)) else (none)) = some r := by first | (rw [hy252]; with_reducible exact H) | (have H2_ := (Option.bind_some _ _).symm.trans H; rw [hy252]; with_reducible exact H2_) | (have H2_ := (Option.bind_some _ _).symm.trans H; with_reducible exact H2_) | with_reducible exact H | (rw [hy252]; exact H) | exact H
   have Ny252 := Am hy252
   clear hy252
   by_cases c5 : 0 ≤ a1
   ·rw [if_pos c5] at H
    have c5b0 : decide (0 ≤ a1) = true := decide_eq_true c5
    clear c5
    by_cases c6 : a1 < (y252.length : Int)
    ·rw [if_pos c6] at H
     have c6b0 : decide (a1 < (y252.length : Int)) = true := decide_eq_true c6
     clear c6
     obtain ⟨y255, hy255⟩ : ∃ y_ : List Bool, y_ = (y252.set (a1 : Int).toNat true) := ⟨_, rfl⟩
     replace H : (impl_reached.l0 k l0 y255 (([a1] : List Int))) = some r := by first | (rw [hy255]; with_reducible exact H) | (have H2_ := (Option.bind_some _ _).symm.trans H; rw [hy255]; with_reducible exact H2_) | (have H2_ := (Option.bind_some _ _).symm.trans H; with_reducible exact H2_) | with_reducible exact H | (rw [hy255]; exact H) | exact H
     have Ny255 := Am hy255
     clear hy255
     obtain ⟨y256, hy256⟩ : ∃ y_ : List Int, y_ = (([a1] : List Int)) := ⟨_, rfl⟩
     replace H : (impl_reached.l0 k l0 y255 y256) = some r := by first | (rw [hy256]; with_reducible exact H) | (have H2_ := (Option.bind_some _ _).symm.trans H; rw [hy256]; with_reducible exact H2_) | (have H2_ := (Option.bind_some _ _).symm.trans H; with_reducible exact H2_) | with_reducible exact H | (rw [hy256]; exact H) | exact H
     have Ny256 := Am hy256
     clear hy256
     have H' := Am H
     clear H
     go_enter Try.func58, Try.ntmps58
     go_wp2_with (first | ((refine Gd (N := 14) rfl ?_); refine Kd.R_make Kd.bool _ 4 rfl (N := 14) rfl 129 _ _ rfl (l0.length : Int) rfl rfl Try.underlying129 (.bool false) 1 info4 rfl (by decide) (by omega) false (ok := fun _ => True) (okp := fun _ => True) rfl (fun _ hk => hk) trivial (of_decide_eq_true (by assumption)) (Nat.le_trans (Nat.mul_le_mul_right _ (of_decide_eq_true (by assumption) : (l0.length : Int).toNat ≤ 281474976710656)) (by omega)) (Below.refl _ _) (Nat.le_refl _) ?_; intro v253 w8 ho9 hb hg_ hnew_; clear hg_ hnew_; (first | rw [← Ny252.out] at ho9 | (simp only [Int.reduceToNat] at ho9; rw [← Ny252.out] at ho9)); have n0_ := Am (Kd.R_lower ho9 (Bz (by repeat (first | exact HB.out | apply Ba | apply Bn | apply Bd)))); have n1_ := Am (Bt (by repeat (first | exact HB.out | apply Ba | apply Bn | apply Bd)) hb); clear HB; have HO254 := n0_; have HB := n1_; clear n0_ n1_; clear hb ho9; have p7 : 0 ≤ (a1 : Int) := of_decide_eq_true (by assumption); have q7 : (a1 : Int) < ((y252.length : Int) : Int) := of_decide_eq_true (by assumption); obtain ⟨go7, co7, eo7, gb7, gl7, cl7, HG7⟩ := Kd.R_form HO254.out (by omega); (first | cases eo7 | (injection eo7 with ea_ en_ ec_; (first | subst ea_ | (injection ea_ with ea_; subst ea_)); subst ec_; clear en_)); have GB7 := Am gb7; have GG7 := Am HG7; clear gb7 gl7 HG7; obtain ⟨hx7_0, hf7_0⟩ := Kd.R_celln false HO254.out (a1 : Int) p7 q7; replace p7 := eq_true p7; replace q7 := eq_true q7; obtain ⟨hy10_, hz10_⟩ := Kd.R_celln false HO254.out (a1 : Int) (of_decide_eq_true (by assumption)) (of_decide_eq_true (by assumption)); have HP10 := Kd.R_putg HO254.out (a1 : Int) true) | ((refine Gs (t := 4) (p := 17) rfl ?_); refine store_event (t := 4) (p := 17) (v := ?vo_w11) (w1 := (w8.setCell ⟨go7, (a1 : Int).toNat, none⟩ (.bool true))) ?hg ?ho ?hn ?hr ?_; (case ho => rfl); (case hg => rfl); (case hn => rfl); (case hr => first | (go_simp; done) | (go_simp; rfl)); intro w11 hw; have hg : w8.grownBy w11 (some go7) := (by rw [hw]; exact HP10.2); have hp_ : Kd.R Kd.bool 4 w11 w.heap.size (fun _ => True) (.slice (some ⟨go7, 0, none⟩) y252.length co7) y255 := (by rw [hw, Ny255.out]; exact HP10.1); clear HP10; have n0_ := Am (hp_); have n1_ := Am ((by rw [hw]; exact Bs (HB.out) GB7.out : Below w.heap.size w w11)); clear HO254; clear HB; have HO254 := n0_; have HB := n1_; clear n0_ n1_; clear hg hw hp_) | ((refine Gd (N := 19) rfl ?_); refine Kd.R_lit (Kd.int .i64) _ 3 ?hg (N := 19) ?hd (xs := ([a1] : List Int)) (inner := [.int .i64 a1]) (ok := fun _ => True) (okp := fun _ => True) ?hr ?hp (fun _ hk => hk) trivial (Below.refl _ _) (Nat.le_refl _) (by simp) ?_; (case hd | hg => rfl); (case hr => first | (go_simp; done) | (go_simp; rfl)); (case hp => exact (Reps.one (show Kd.M (Kd.int .i64) _ _ _ a1 [.int .i64 a1] from rfl) (Reps.none _ _))); intro v257 w12 ho13 hb hg_ hnew_; clear hg_ hnew_; (first | rw [← Ny256.out] at ho13 | (simp only [Int.reduceToNat] at ho13; rw [← Ny256.out] at ho13)); have n0_ := Am (Kd.R_below (by (with_reducible repeat (first | apply Ra | apply Rn | apply Rd)); exact HO254.out) hb); have n1_ := Am (Kd.R_lower ho13 (Bz (by repeat (first | exact HB.out | apply Ba | apply Bn | apply Bd)))); have n2_ := Am (Bt (by repeat (first | exact HB.out | apply Ba | apply Bn | apply Bd)) hb); clear HO254; clear HB; have HO254 := n0_; have HO258 := n1_; have HB := n2_; clear n0_ n1_ n2_; clear hb ho13))
     go_loopg [6] k (fun kq v6 w' => ∃ (x5_1 : List Bool) (x6_1 : List Int), Ad (impl_reached.l0 kq l0 x5_1 x6_1 = some r) ∧ Ad (kq ≤ k) ∧ Ad (Kd.R Kd.bool 4 w' w.heap.size (fun _ => True) (.slice (some ⟨go7, 0, none⟩) y252.length co7) x5_1) ∧ Ad (Kd.Q (Kd.int .i64) 3 w' w.heap.size (fun _ => True) v6 x6_1) ∧ Ad (Below w.heap.size w w'))
     case atStart => exact ⟨(y255), (y256), H', ⟨Nat.le_refl _⟩, ⟨by (with_reducible repeat (first | apply Ra | apply Rn | apply Rd)); exact HO254.out⟩, ⟨Kd.Q_of_R (by (with_reducible repeat (first | apply Ra | apply Rn | apply Rd)); exact HO258.out)⟩, ⟨by repeat (first | exact HB.out | apply Ba | apply Bn | apply Bd)⟩⟩
     case round =>
      clear H'
      try clear p2
      try clear c3
      try clear c3b0
      try clear c3b1
      try clear c4
      try clear c4b0
      try clear c4b1
      try clear c5
      try clear c5b0
      try clear c6
      try clear c6b0
      try clear p7
      try clear q7
      try clear hx7
      try clear hf7
      try clear hx7_0
      try clear p7
      try clear q7
      obtain ⟨x5_1, x6_1, HA, HK1, HO_5, HO_6, HB⟩ := hrel
      have hl5_1 := (Kd.R_reads' HO_5.out).1
      rw [hl5_1] at HO_5
      (try simp only [hl5_1])
      (try simp only [hl5_1] at HO_6)
      cases gk with
      | zero => exact absurd HA.out (by simp [impl_reached.l0])
      | succ k1 =>
       have H := HA.out
       clear HA
       simp only [impl_reached.l0] at H
       by_cases c14 : (x6_1.length : Int) > 0
       ·rw [if_pos c14] at H
        have c14b0 : decide (0 < (x6_1.length : Int)) = true := decide_eq_true c14
        have c14b1 : decide (0 < x6_1.length) = true := decide_eq_true (by omega)
        clear c14
        by_cases c15 : 0 < (x6_1.length : Int)
        ·rw [if_pos c15] at H
         have c15b0 : decide (0 < (x6_1.length : Int)) = true := decide_eq_true c15
         have c15b1 : decide (0 < x6_1.length) = true := decide_eq_true (by omega)
         clear c15
         by_cases c16 : 0 ≤ (rd x6_1 0)
         ·rw [if_pos c16] at H
          have c16b0 : decide (0 ≤ (rd x6_1 0)) = true := decide_eq_true c16
          clear c16
          by_cases c17 : (rd x6_1 0) < (l0.length : Int)
          ·rw [if_pos c17] at H
           have c17b0 : decide ((rd x6_1 0) < (l0.length : Int)) = true := decide_eq_true c17
           clear c17
           have H' := Am H
           clear H
           obtain ⟨Ao18, co18, eo18, _⟩ := Kd.Q_slice HO_6.out
           subst eo18
           have p259 : 0 ≤ (0 : Int) := (by omega)
           have q259 : 0 < (x6_1.length : Int) := of_decide_eq_true (by assumption)
           obtain ⟨ad259, e259, hx259_0⟩ := Kd.at_int (Kd.Q_reads' HO_6.out).2.2 0 p259 q259
           cases e259
           have qi259 : (0 < x6_1.length) = True := eq_true (by omega)
           (try rw [show ((0 : Int)).toNat = 0 from rfl] at hx259_0)
           (try rw [Addr.add_zero'] at hx259_0)
           replace p259 := eq_true p259
           replace q259 := eq_true q259
           have p260 : 0 ≤ ((rd x6_1 0) : Int) := of_decide_eq_true (by assumption)
           have q260 : (rd x6_1 0) < (l0.length : Int) := of_decide_eq_true (by assumption)
           obtain ⟨ad260, A260_0, c260_0, e260, hx260_0, hl260_0, hi260_0⟩ := at_L1 HR0.out (rd x6_1 0) p260 q260
           cases e260
           replace hx260_0 := (HB.out.cell (bl_ w _ hx260_0)).trans hx260_0
           have HR260_0 := Am hi260_0
           have HC260_0 := Am hl260_0
           clear hi260_0 hl260_0
           replace p260 := eq_true p260
           replace q260 := eq_true q260
           go_wp2
           go_loopg [6, 32] k1 (fun kq v6 v32 w' => ∃ (x5_2 : List Bool) (x6_2 : List Int) (x32_2 : Int), v32 = .int .i64 x32_2 ∧ Ad (impl_reached.l1 kq l0 x5_2 x6_2 (rd_L1 l0 (rd x6_1 0)) ((rd_L1 l0 (rd x6_1 0)).length : Int) x32_2 = some r) ∧ Ad (kq ≤ k1) ∧ Ad (Kd.R Kd.bool 4 w' w.heap.size (fun _ => True) (.slice (some ⟨go7, 0, none⟩) x5_1.length co7) x5_2) ∧ Ad (Kd.Q (Kd.int .i64) 3 w' w.heap.size (fun _ => True) v6 x6_2) ∧ Ad (Below w.heap.size w w'))
           case atStart => exact ⟨(x5_1), (x6_1), (0), (by first | rfl | (simp; done) | (simp [*]; done)), H', ⟨Nat.le_refl _⟩, ⟨by (try simp only [hl5_1]); (with_reducible repeat (first | apply Ra | apply Rn | apply Rd)); exact HO_5.out⟩, ⟨by (try simp only [hl5_1]); (with_reducible repeat (first | apply Kd.Q_alloc | apply Kd.Q_drewN | apply Kd.Q_drew)); exact HO_6.out⟩, ⟨by repeat (first | exact HB.out | apply Ba | apply Bn | apply Bd)⟩⟩
           case round =>
            clear H'
            try clear c1
            try clear c2
            try clear p2
            try clear q2
            try clear hx2
            try clear qi2
            try clear c3
            try clear c3b0
            try clear c3b1
            try clear c4
            try clear c4b0
            try clear c4b1
            try clear c5
            try clear c5b0
            try clear c6
            try clear c6b0
            try clear p7
            try clear q7
            try clear hx7
            try clear hf7
            try clear c14
            try clear c14b0
            try clear c14b1
            try clear c15
            try clear c15b0
            try clear c15b1
            try clear c16
            try clear c16b0
            try clear c17
            try clear c17b0
            try clear hx259_0
            try clear hx260_0
            try clear hx7_0
            try clear p2
            try clear p259
            try clear p260
            try clear p7
            try clear q259
            try clear q260
            try clear q7
            obtain ⟨x5_2, x6_2, x32_2, rfl, HA, HK2, HO_5, HO_6, HB⟩ := hrel
            have hl5_2 := (Kd.R_reads' HO_5.out).1
            rw [hl5_2] at HO_5
            (try simp only [hl5_2])
            (try simp only [hl5_2] at HO_6)
            cases gk with
            | zero => exact absurd HA.out (by simp [impl_reached.l1])
            | succ k2 =>
             have H := HA.out
             clear HA
             simp only [impl_reached.l1] at H
             by_cases c19 : x32_2 < ((rd_L1 l0 (rd x6_1 0)).length : Int)
             ·rw [if_pos c19] at H
              have c19b0 : decide (x32_2 < ((rd_L1 l0 (rd x6_1 0)).length : Int)) = true := decide_eq_true c19
              clear c19
              by_cases c20 : 0 ≤ x32_2
              ·rw [if_pos c20] at H
               have c20b0 : decide (0 ≤ x32_2) = true := decide_eq_true c20
               clear c20
               by_cases c21 : x32_2 < ((rd_L1 l0 (rd x6_1 0)).length : Int)
               ·rw [if_pos c21] at H
                have c21b0 : decide (x32_2 < ((rd_L1 l0 (rd x6_1 0)).length : Int)) = true := decide_eq_true c21
                clear c21
                by_cases c22 : 0 ≤ (rd (rd_L1 l0 (rd x6_1 0)) x32_2)
                ·rw [if_pos c22] at H
                 have c22b0 : decide (0 ≤ (rd (rd_L1 l0 (rd x6_1 0)) x32_2)) = true := decide_eq_true c22
                 clear c22
                 by_cases c23 : (rd (rd_L1 l0 (rd x6_1 0)) x32_2) < (x5_2.length : Int)
                 ·rw [if_pos c23] at H
                  have c23b0 : decide ((rd (rd_L1 l0 (rd x6_1 0)) x32_2) < (x5_2.length : Int)) = true := decide_eq_true c23
                  clear c23
                  obtain ⟨bq24, hbq24⟩ : ∃ b_ : Bool, b_ = (rdOf false x5_2 (rd (rd_L1 l0 (rd x6_1 0)) x32_2)) := ⟨_, rfl⟩
                  replace H : (if (bq24 = true) then (impl_reached.l1 k2 l0 x5_2 x6_2 (rd_L1 l0 (rd x6_1 0)) ((rd_L1 l0 (rd x6_1 0)).length : Int) (wrap64 (x32_2 + 1))) else (if x6_2.length < 17592186044416 then (impl_reached.l1 k2 l0 (x5_2.set ((rd (rd_L1 l0 (rd x6_1 0)) x32_2) : Int).toNat true) (x6_2 ++ [rd (rd_L1 l0 (rd x6_1 0)) x32_2]) (rd_L1 l0 (rd x6_1 0)) ((rd_L1 l0 (rd x6_1 0)).length : Int) (wrap64 (x32_2 + 1))) else (none))) = some r := by rw [← hbq24] at H; exact H
                  have Nbq24 := Am hbq24
                  clear hbq24
                  by_cases c25 : (bq24 = true)
                  ·subst c25
                   have H1 : (impl_reached.l1 k2 l0 x5_2 x6_2 (rd_L1 l0 (rd x6_1 0)) ((rd_L1 l0 (rd x6_1 0)).length : Int) (wrap64 (x32_2 + 1))) = some r := by rw [if_pos rfl] at H; exact H
                   clear H
                   have H := H1
                   clear H1
                   have H' := Am H
                   clear H
                   have p261 : 0 ≤ (x32_2 : Int) := of_decide_eq_true (by assumption)
                   have q261 : x32_2 < ((rd_L1 l0 (rd x6_1 0)).length : Int) := of_decide_eq_true (by assumption)
                   obtain ⟨ad261, e261, hx261_0⟩ := Kd.at_int HR260_0.out x32_2 p261 q261
                   cases e261
                   replace hx261_0 := (HB.out.cell (bl_ w _ hx261_0)).trans hx261_0
                   replace p261 := eq_true p261
                   replace q261 := eq_true q261
                   have p262 : 0 ≤ ((rd (rd_L1 l0 (rd x6_1 0)) x32_2) : Int) := of_decide_eq_true (by assumption)
                   have q262 : (rd (rd_L1 l0 (rd x6_1 0)) x32_2) < (x5_2.length : Int) := of_decide_eq_true (by assumption)
                   obtain ⟨ad262, e262, hx262_0⟩ := Kd.at_bool (Kd.R_reads' HO_5.out).2.2 (rd (rd_L1 l0 (rd x6_1 0)) x32_2) p262 q262
                   (try rw [← Nbq24.out] at hx262_0)
                   obtain rfl : (⟨go7, 0, none⟩ : Addr) = ad262 := (by injection e262)
                   (first | simp only [add_plain] at hx262_0 | simp only [add_at] at hx262_0 | simp only [Addr.add, Nat.zero_add] at hx262_0 | skip)
                   replace p262 := eq_true p262
                   replace q262 := eq_true q262
                   go_wp2
                   (try simp only [← hl5_2])
                   go_roundg k2
                   case measure => have := HK1.out; have := HK2.out; omega
                   case rel => exact ⟨(x5_2), (x6_2), (wrap64 (x32_2 + 1)), (by first | rfl | (simp; done) | (simp [*]; done)), H', ⟨by have := HK1.out; have := HK2.out; omega⟩, ⟨by (try simp only [hl5_1]); (try simp only [hl5_2]); (with_reducible repeat (first | apply Ra | apply Rn | apply Rd)); exact HO_5.out⟩, ⟨by (try simp only [hl5_1]); (try simp only [hl5_2]); (with_reducible repeat (first | apply Kd.Q_alloc | apply Kd.Q_drewN | apply Kd.Q_drew)); exact HO_6.out⟩, ⟨by repeat (first | exact HB.out | apply Ba | apply Bn | apply Bd)⟩⟩
                  ·replace c25 := Bool.eq_false_iff.mpr c25
                   subst c25
                   have H1 : (if x6_2.length < 17592186044416 then (impl_reached.l1 k2 l0 (x5_2.set ((rd (rd_L1 l0 (rd x6_1 0)) x32_2) : Int).toNat true) (x6_2 ++ [rd (rd_L1 l0 (rd x6_1 0)) x32_2]) (rd_L1 l0 (rd x6_1 0)) ((rd_L1 l0 (rd x6_1 0)).length : Int) (wrap64 (x32_2 + 1))) else (none)) = some r := by rw [if_neg (show ¬ (false = true) by decide)] at H; exact H
                   clear H
                   have H := H1
                   clear H1
                   obtain ⟨y263, hy263⟩ : ∃ y_ : List Bool, y_ = (x5_2.set ((rd (rd_L1 l0 (rd x6_1 0)) x32_2) : Int).toNat true) := ⟨_, rfl⟩
                   replace H : (if x6_2.length < 17592186044416 then (impl_reached.l1 k2 l0 y263 (x6_2 ++ [rd (rd_L1 l0 (rd x6_1 0)) x32_2]) (rd_L1 l0 (rd x6_1 0)) ((rd_L1 l0 (rd x6_1 0)).length : Int) (wrap64 (x32_2 + 1))) else (none)) = some r := by first | (rw [hy263]; with_reducible exact H) | (have H2_ := (Option.bind_some _ _).symm.trans H; rw [hy263]; with_reducible exact H2_) | (have H2_ := (Option.bind_some _ _).symm.trans H; with_reducible exact H2_) | with_reducible exact H | (rw [hy263]; exact H) | exact H
                   have Ny263 := Am hy263
                   clear hy263
                   by_cases c27 : x6_2.length < 17592186044416
                   ·rw [if_pos c27] at H
                    have LMc27 := Am c27
                    clear c27
                    obtain ⟨y264, hy264⟩ : ∃ y_ : List Int, y_ = (x6_2 ++ [rd (rd_L1 l0 (rd x6_1 0)) x32_2]) := ⟨_, rfl⟩
                    replace H : (impl_reached.l1 k2 l0 y263 y264 (rd_L1 l0 (rd x6_1 0)) ((rd_L1 l0 (rd x6_1 0)).length : Int) (wrap64 (x32_2 + 1))) = some r := by first | (rw [hy264]; with_reducible exact H) | (have H2_ := (Option.bind_some _ _).symm.trans H; rw [hy264]; with_reducible exact H2_) | (have H2_ := (Option.bind_some _ _).symm.trans H; with_reducible exact H2_) | with_reducible exact H | (rw [hy264]; exact H) | exact H
                    have Ny264 := Am hy264
                    clear hy264
                    have H' := Am H
                    clear H
                    have p261 : 0 ≤ (x32_2 : Int) := of_decide_eq_true (by assumption)
                    have q261 : x32_2 < ((rd_L1 l0 (rd x6_1 0)).length : Int) := of_decide_eq_true (by assumption)
                    obtain ⟨ad261, e261, hx261_0⟩ := Kd.at_int HR260_0.out x32_2 p261 q261
                    cases e261
                    replace hx261_0 := (HB.out.cell (bl_ w _ hx261_0)).trans hx261_0
                    replace p261 := eq_true p261
                    replace q261 := eq_true q261
                    have p262 : 0 ≤ ((rd (rd_L1 l0 (rd x6_1 0)) x32_2) : Int) := of_decide_eq_true (by assumption)
                    have q262 : (rd (rd_L1 l0 (rd x6_1 0)) x32_2) < (x5_2.length : Int) := of_decide_eq_true (by assumption)
                    obtain ⟨ad262, e262, hx262_0⟩ := Kd.at_bool (Kd.R_reads' HO_5.out).2.2 (rd (rd_L1 l0 (rd x6_1 0)) x32_2) p262 q262
                    (try rw [← Nbq24.out] at hx262_0)
                    obtain rfl : (⟨go7, 0, none⟩ : Addr) = ad262 := (by injection e262)
                    (first | simp only [add_plain] at hx262_0 | simp only [add_at] at hx262_0 | simp only [Addr.add, Nat.zero_add] at hx262_0 | skip)
                    replace p262 := eq_true p262
                    replace q262 := eq_true q262
                    have p26 : 0 ≤ ((rd (rd_L1 l0 (rd x6_1 0)) x32_2) : Int) := of_decide_eq_true (by assumption)
                    have q26 : ((rd (rd_L1 l0 (rd x6_1 0)) x32_2) : Int) < ((x5_2.length : Int) : Int) := of_decide_eq_true (by assumption)
                    obtain ⟨hx26_0, hf26_0⟩ := Kd.R_celln false HO_5.out ((rd (rd_L1 l0 (rd x6_1 0)) x32_2) : Int) p26 q26
                    replace p26 := eq_true p26
                    replace q26 := eq_true q26
                    have HP28 := Kd.R_putg HO_5.out ((rd (rd_L1 l0 (rd x6_1 0)) x32_2) : Int) true
                    go_wp2_with (first | ((refine Gs (t := 4) (p := 43) rfl ?_); refine store_event (t := 4) (p := 43) (v := ?vo_w29) (w1 := (wr.setCell ⟨go7, ((rd (rd_L1 l0 (rd x6_1 0)) x32_2) : Int).toNat, none⟩ (.bool true))) ?hg ?ho ?hn ?hr ?_; (case ho => rfl); (case hg => rfl); (case hn => rfl); (case hr => first | (go_simp; done) | (go_simp; rfl)); intro w29 hw; have hg : wr.grownBy w29 (some go7) := (by rw [hw]; exact HP28.2); have hp_ : Kd.R Kd.bool 4 w29 w.heap.size (fun _ => True) (.slice (some ⟨go7, 0, none⟩) x5_2.length co7) y263 := (by rw [hw, Ny263.out]; exact HP28.1); clear HP28; have n0_ := Am (hp_); have n1_ := Am (Kd.Q_over' (v := (.slice (some ⟨go7, 0, none⟩) x5_2.length co7)) (by (with_reducible repeat (first | apply Kd.Q_alloc | apply Kd.Q_drewN | apply Kd.Q_drew)); exact HO_6.out) (Kd.R_typed HO_5.out) (by decide) hg); have n2_ := Am ((by rw [hw]; exact Bs (HB.out) GB7.out : Below w.heap.size w w29)); clear HO_5; clear HO_6; clear HB; have HO_5 := n0_; have HO_6 := n1_; have HB := n2_; clear n0_ n1_ n2_; clear hg hw hp_) | ((with_reducible refine gate_builtin (b := .append) (xs := #[.tmp 44, .tmp 46]) rfl ?_); at_builtin; refine Kd.Q_append (Kd.int .i64) (w0 := w) w.heap.size rfl (.tmp 44) (.tmp 46) 23 3 (.int .i64 0) 8 rfl Try.underlying23 info3 rfl (by decide) (by omega) u6 x6_2 (rd (rd_L1 l0 (rd x6_1 0)) x32_2) [.int .i64 (rd (rd_L1 l0 (rd x6_1 0)) x32_2)] (fun _ => True) (fun _ => False) rfl rfl ?aP (fun _ hk => hk.elim) ?aF ?aO ?aB ?aS ?aL ?_; (case aP => exact rfl); (case aB => exact (by repeat (first | exact HB.out | apply Ba | apply Bn | apply Bd))); (case aF => exact (fun _ _ => trivial)); (case aO => exact (by (with_reducible repeat (first | apply Kd.Q_alloc | apply Kd.Q_drewN | apply Kd.Q_drew)); exact HO_6.out)); (case aS => exact (Bz (by repeat (first | exact HB.out | apply Ba | apply Bn | apply Bd)))); (case aL => have := LMc27.out; omega); intro v265 w30 ho hb hg hat; rw [← Ny264.out] at ho; have n0_ := Am (Kd.R_over' (by (with_reducible repeat (first | apply Ra | apply Rn | apply Rd)); exact HO_5.out) (Kd.Q_typed (by (with_reducible repeat (first | apply Kd.Q_alloc | apply Kd.Q_drewN | apply Kd.Q_drew)); exact HO_6.out)) (by decide) hg); have n1_ := Am (hb); have n2_ := Am (ho); clear HO_5; clear HB; clear HO_6; have HO_5 := n0_; have HB := n1_; have HO266 := n2_; clear n0_ n1_ n2_; clear ho hb hg hat))
                    (try simp only [← hl5_2])
                    go_roundg k2
                    case measure => have := HK1.out; have := HK2.out; omega
                    case rel => exact ⟨(y263), (y264), (wrap64 (x32_2 + 1)), (by first | rfl | (simp; done) | (simp [*]; done)), H', ⟨by have := HK1.out; have := HK2.out; omega⟩, ⟨by (try simp only [hl5_1]); (try simp only [hl5_2]); (with_reducible repeat (first | apply Ra | apply Rn | apply Rd)); exact HO_5.out⟩, ⟨by (try simp only [hl5_1]); (try simp only [hl5_2]); (with_reducible repeat (first | apply Kd.Q_alloc | apply Kd.Q_drewN | apply Kd.Q_drew)); exact HO266.out⟩, ⟨by repeat (first | exact HB.out | apply Ba | apply Bn | apply Bd)⟩⟩
                   ·rw [if_neg c27] at H
                    exact absurd H (by simp)
                 ·rw [if_neg c23] at H
                  exact absurd H (by simp)
                ·rw [if_neg c22] at H
                 exact absurd H (by simp)
               ·rw [if_neg c21] at H
                exact absurd H (by simp)
              ·rw [if_neg c20] at H
               exact absurd H (by simp)
             ·rw [if_neg c19] at H
              have c19b0 : decide (x32_2 < ((rd_L1 l0 (rd x6_1 0)).length : Int)) = false := decide_eq_false c19
              clear c19
              by_cases c31 : 1 ≤ (x6_2.length : Int)
              ·rw [if_pos c31] at H
               have c31b0 := eq_true c31
               have c31b1 : decide (1 ≤ (x6_2.length : Int)) = true := decide_eq_true c31
               clear c31
               obtain ⟨y267, hy267⟩ : ∃ y_ : List Int, y_ = (x6_2.drop (1 : Int).toNat) := ⟨_, rfl⟩
               replace H : (impl_reached.l0 k2 l0 x5_2 y267) = some r := by first | (rw [hy267]; with_reducible exact H) | (have H2_ := (Option.bind_some _ _).symm.trans H; rw [hy267]; with_reducible exact H2_) | (have H2_ := (Option.bind_some _ _).symm.trans H; with_reducible exact H2_) | with_reducible exact H | (rw [hy267]; exact H) | exact H
               have Ny267 := Am hy267
               clear hy267
               have H' := Am H
               clear H
               obtain ⟨Ao32, co32, eo32, _⟩ := Kd.Q_slice HO_6.out
               subst eo32
               have q33 : (1 : Int) ≤ ((x6_2.length : Int) : Int) := of_decide_eq_true (by assumption)
               obtain ⟨i033, hi033, _, hsz33, _⟩ := info_parts info3
               have hcut33 := cut_from (P := Try.prog) 23 3 .i64 Try.underlying23 hi033 1 hsz33 Ao32 x6_2.length co32 1 (by omega) q33
               have hr33 := Kd.Q_drop (k := (1 : Int).toNat) HO_6.out (by omega)
               obtain ⟨A33, hA33⟩ : ∃ A1, A1 = (if co32 = (1 : Int).toNat then Ao32 else (Ao32 : Option Addr).map (·.add ((1 : Int).toNat * 1))) := ⟨_, rfl⟩
               obtain ⟨c33, hc33⟩ : ∃ c1, c1 = co32 - (1 : Int).toNat := ⟨_, rfl⟩
               have hy33 : y267.length = x6_2.length - (1 : Int).toNat := (by rw [Ny267.out, List.length_drop])
               rw [← Ny267.out] at hr33
               rw [← hy33, ← hA33, ← hc33] at hcut33
               replace hr33 : Kd.Q (Kd.int .i64) 3 wr w.heap.size (fun _ => True) (.slice A33 y267.length c33) y267 := (by rw [hA33, hc33, hy33]; exact hr33)
               have HE33 : Ad ((Value.slice A33 y267.length c33).ownBlock = (.slice Ao32 x6_2.length co32 : Value).ownBlock) := ⟨by rw [hA33]; split <;> (cases (Ao32 : Option Addr) <;> rfl)⟩
               clear hy33 hi033 hsz33 HO_6 hA33 hc33
               have HO269 := Am hr33
               clear hr33
               replace q33 := eq_true q33
               go_wp2
               (try simp only [← hl5_1, ← hl5_2])
               go_roundg k2
               case measure => have := HK1.out; have := HK2.out; omega
               case rel => exact ⟨(x5_2), (y267), H', ⟨by have := HK1.out; have := HK2.out; omega⟩, ⟨by (try simp only [hl5_1]); (try simp only [hl5_2]); (with_reducible repeat (first | apply Ra | apply Rn | apply Rd)); exact HO_5.out⟩, ⟨by (try simp only [hl5_1]); (try simp only [hl5_2]); (with_reducible repeat (first | apply Kd.Q_alloc | apply Kd.Q_drewN | apply Kd.Q_drew)); exact HO269.out⟩, ⟨by repeat (first | exact HB.out | apply Ba | apply Bn | apply Bd)⟩⟩
              ·rw [if_neg c31] at H
               exact absurd H (by simp)
          ·rw [if_neg c17] at H
           exact absurd H (by simp)
         ·rw [if_neg c16] at H
          exact absurd H (by simp)
        ·rw [if_neg c15] at H
         exact absurd H (by simp)
       ·rw [if_neg c14] at H
        have c14b0 : decide (0 < (x6_1.length : Int)) = false := decide_eq_false c14
        have c14b1 : decide (0 < x6_1.length) = false := decide_eq_false (by omega)
        clear c14
        obtain ⟨y270, hy270⟩ : ∃ y_ : List Int, y_ = (([] : List Int)) := ⟨_, rfl⟩
        replace H : (impl_reached.l2 k1 y270 x5_1 (x5_1.length : Int) 0) = some r := by first | (rw [hy270]; with_reducible exact H) | (have H2_ := (Option.bind_some _ _).symm.trans H; rw [hy270]; with_reducible exact H2_) | (have H2_ := (Option.bind_some _ _).symm.trans H; with_reducible exact H2_) | with_reducible exact H | (rw [hy270]; exact H) | exact H
        have Ny270 := Am hy270
        clear hy270
        have H' := Am H
        clear H
        obtain ⟨Ao34, co34, eo34, _⟩ := Kd.Q_slice HO_6.out
        subst eo34
        go_wp2_with (first | ((refine Gd (N := 49) rfl ?_); refine Kd.R_lit (Kd.int .i64) _ 3 ?hg (N := 49) ?hd (xs := ([] : List Int)) (inner := []) (ok := fun _ => True) (okp := fun _ => True) ?hr ?hp (fun _ hk => hk) trivial (Below.refl _ _) (Nat.le_refl _) (by simp) ?_; (case hd | hg => rfl); (case hr => first | (go_simp; done) | (go_simp; rfl)); (case hp => exact (Reps.none _ _)); intro v271 w35 ho36 hb hg_ hnew_; clear hg_ hnew_; (first | rw [← Ny270.out] at ho36 | (simp only [Int.reduceToNat] at ho36; rw [← Ny270.out] at ho36)); have n0_ := Am (Kd.R_below (by (with_reducible repeat (first | apply Ra | apply Rn | apply Rd)); exact HO_5.out) hb); have n1_ := Am (Kd.Q_elder' (by (with_reducible repeat (first | apply Kd.Q_alloc | apply Kd.Q_drewN | apply Kd.Q_drew)); exact HO_6.out) (Kd.R_base ho36) hb); have n2_ := Am (Kd.R_lower (Kd.R_new' ho36 (Kd.Q_lt (by (with_reducible repeat (first | apply Kd.Q_alloc | apply Kd.Q_drewN | apply Kd.Q_drew)); exact HO_6.out))) (Bz (by repeat (first | exact HB.out | apply Ba | apply Bn | apply Bd)))); have n3_ := Am (Bt (by repeat (first | exact HB.out | apply Ba | apply Bn | apply Bd)) hb); clear HO_5; clear HO_6; clear HB; have HO_5 := n0_; have HO_6 := n1_; have HO272 := n2_; have HB := n3_; clear n0_ n1_ n2_ n3_; clear hb ho36))
        go_loopg [9, 52] k1 (fun kq v9 v52 w' => ∃ (x9_2 : List Int) (x52_2 : Int), v52 = .int .i64 x52_2 ∧ Ad (impl_reached.l2 kq x9_2 x5_1 (x5_1.length : Int) x52_2 = some r) ∧ Ad (kq ≤ k1) ∧ Ad (Kd.R (Kd.int .i64) 3 w' w.heap.size (fun _ => True) v9 x9_2) ∧ Ad (Kd.R Kd.bool 4 w' w.heap.size (fun _ => True) (.slice (some ⟨go7, 0, none⟩) x5_1.length co7) x5_1) ∧ Ad (Below w.heap.size w w'))
        case atStart => exact ⟨(y270), (0), (by first | rfl | (simp; done) | (simp [*]; done)), H', ⟨Nat.le_refl _⟩, ⟨by (try simp only [hl5_1]); (with_reducible repeat (first | apply Ra | apply Rn | apply Rd)); exact Kd.R_mono HO272.out (fun _ hk => trivial)⟩, ⟨by (try simp only [hl5_1]); (with_reducible repeat (first | apply Ra | apply Rn | apply Rd)); exact HO_5.out⟩, ⟨by repeat (first | exact HB.out | apply Ba | apply Bn | apply Bd)⟩⟩
        case round =>
         clear H'
         try clear c1
         try clear c2
         try clear p2
         try clear q2
         try clear hx2
         try clear qi2
         try clear hf2
         try clear c3
         try clear c3b0
         try clear c3b1
         try clear q3
         try clear c4
         try clear c4b0
         try clear c4b1
         try clear c5
         try clear c5b0
         try clear c6
         try clear c6b0
         try clear p6
         try clear p7
         try clear q7
         try clear hx7
         try clear hf7
         try clear c14
         try clear c14b0
         try clear c14b1
         try clear c15
         try clear c15b0
         try clear c15b1
         try clear c16
         try clear c16b0
         try clear c17
         try clear c17b0
         try clear c19
         try clear c19b0
         try clear c20
         try clear c20b0
         try clear c21
         try clear c21b0
         try clear c22
         try clear c22b0
         try clear c23
         try clear c23b0
         try clear q24
         try clear c25
         try clear p25
         try clear q25
         try clear hx25
         try clear qi25
         try clear c26
         try clear p26
         try clear q26
         try clear hx26
         try clear hf26
         try clear c27
         try clear c31
         try clear c31b0
         try clear c31b1
         try clear c33
         try clear q33
         try clear hx259_0
         try clear hx260_0
         try clear hx261_0
         try clear hx262_0
         try clear hx26_0
         try clear hx7_0
         try clear p2
         try clear p259
         try clear p26
         try clear p260
         try clear p261
         try clear p262
         try clear p7
         try clear q2
         try clear q259
         try clear q26
         try clear q260
         try clear q261
         try clear q262
         try clear q33
         try clear q7
         obtain ⟨x9_2, x52_2, rfl, HA, HK2, HO_9, HO_50, HB⟩ := hrel
         cases gk with
         | zero => exact absurd HA.out (by simp [impl_reached.l2])
         | succ k2 =>
          have H := HA.out
          clear HA
          simp only [impl_reached.l2] at H
          by_cases c37 : x52_2 < (x5_1.length : Int)
          ·rw [if_pos c37] at H
           have c37b0 : decide (x52_2 < (x5_1.length : Int)) = true := decide_eq_true c37
           clear c37
           by_cases c38 : 0 ≤ x52_2
           ·rw [if_pos c38] at H
            have c38b0 : decide (0 ≤ x52_2) = true := decide_eq_true c38
            clear c38
            by_cases c39 : x52_2 < (x5_1.length : Int)
            ·rw [if_pos c39] at H
             have c39b0 : decide (x52_2 < (x5_1.length : Int)) = true := decide_eq_true c39
             clear c39
             obtain ⟨bq40, hbq40⟩ : ∃ b_ : Bool, b_ = (rdOf false x5_1 x52_2) := ⟨_, rfl⟩
             replace H : (if bq40 = true then (if x9_2.length < 17592186044416 then (impl_reached.l2 k2 (x9_2 ++ [x52_2]) x5_1 (x5_1.length : Int) (wrap64 (x52_2 + 1))) else (none)) else (impl_reached.l2 k2 x9_2 x5_1 (x5_1.length : Int) (wrap64 (x52_2 + 1)))) = some r := by rw [← hbq40] at H; exact H
             have Nbq40 := Am hbq40
             clear hbq40
             by_cases c41 : bq40 = true
             ·subst c41
              have H1 : (if x9_2.length < 17592186044416 then (impl_reached.l2 k2 (x9_2 ++ [x52_2]) x5_1 (x5_1.length : Int) (wrap64 (x52_2 + 1))) else (none)) = some r := by rw [if_pos rfl] at H; exact H
              clear H
              have H := H1
              clear H1
              by_cases c42 : x9_2.length < 17592186044416
              ·rw [if_pos c42] at H
               have LMc42 := Am c42
               clear c42
               obtain ⟨y274, hy274⟩ : ∃ y_ : List Int, y_ = (x9_2 ++ [x52_2]) := ⟨_, rfl⟩
               replace H : (impl_reached.l2 k2 y274 x5_1 (x5_1.length : Int) (wrap64 (x52_2 + 1))) = some r := by first | (rw [hy274]; with_reducible exact H) | (have H2_ := (Option.bind_some _ _).symm.trans H; rw [hy274]; with_reducible exact H2_) | (have H2_ := (Option.bind_some _ _).symm.trans H; with_reducible exact H2_) | with_reducible exact H | (rw [hy274]; exact H) | exact H
               have Ny274 := Am hy274
               clear hy274
               have H' := Am H
               clear H
               have p273 : 0 ≤ (x52_2 : Int) := of_decide_eq_true (by assumption)
               have q273 : x52_2 < (x5_1.length : Int) := of_decide_eq_true (by assumption)
               obtain ⟨ad273, e273, hx273_0⟩ := Kd.at_bool (Kd.R_reads' HO_50.out).2.2 x52_2 p273 q273
               (try rw [← Nbq40.out] at hx273_0)
               obtain rfl : (⟨go7, 0, none⟩ : Addr) = ad273 := (by injection e273)
               (first | simp only [add_plain] at hx273_0 | simp only [add_at] at hx273_0 | simp only [Addr.add, Nat.zero_add] at hx273_0 | skip)
               replace p273 := eq_true p273
               replace q273 := eq_true q273
               go_wp2_with (first | ((with_reducible refine gate_builtin (b := .append) (xs := #[.tmp 58, .tmp 60]) rfl ?_); at_builtin; refine Kd.R_append (Kd.int .i64) (w0 := w) w.heap.size rfl (.tmp 58) (.tmp 60) 23 3 (.int .i64 0) 8 rfl Try.underlying23 info3 rfl (by decide) (by omega) u9 x9_2 x52_2 [.int .i64 x52_2] (fun _ => True) (fun _ => False) rfl rfl ?aP (fun _ hk => hk.elim) ?aF ?aO ?aB ?aS ?aL ?_; (case aP => exact rfl); (case aB => exact (by repeat (first | exact HB.out | apply Ba | apply Bn | apply Bd))); (case aF => exact (fun _ _ => trivial)); (case aO => exact (by (with_reducible repeat (first | apply Ra | apply Rn | apply Rd)); exact HO_9.out)); (case aS => exact (Bz (by repeat (first | exact HB.out | apply Ba | apply Bn | apply Bd)))); (case aL => have := LMc42.out; omega); intro v275 w43 ho hb hg hat; rw [← Ny274.out] at ho; have n0_ := Am (Kd.R_over' (by (with_reducible repeat (first | apply Ra | apply Rn | apply Rd)); exact HO_50.out) (Kd.R_typed (by (with_reducible repeat (first | apply Ra | apply Rn | apply Rd)); exact HO_9.out)) (by decide) hg); have n1_ := Am (hb); have n2_ := Am (ho); clear HO_50; clear HB; clear HO_9; have HO_50 := n0_; have HB := n1_; have HO276 := n2_; clear n0_ n1_ n2_; clear ho hb hg hat))
               go_roundg k2
               case measure => have := HK1.out; have := HK2.out; omega
               case rel => exact ⟨(y274), (wrap64 (x52_2 + 1)), (by first | rfl | (simp; done) | (simp [*]; done)), H', ⟨by have := HK1.out; have := HK2.out; omega⟩, ⟨by (try simp only [hl5_1]); (with_reducible repeat (first | apply Ra | apply Rn | apply Rd)); exact HO276.out⟩, ⟨by (try simp only [hl5_1]); (with_reducible repeat (first | apply Ra | apply Rn | apply Rd)); exact HO_50.out⟩, ⟨by repeat (first | exact HB.out | apply Ba | apply Bn | apply Bd)⟩⟩
              ·rw [if_neg c42] at H
               exact absurd H (by simp)
             ·replace c41 := Bool.eq_false_iff.mpr c41
              subst c41
              have H1 : (impl_reached.l2 k2 x9_2 x5_1 (x5_1.length : Int) (wrap64 (x52_2 + 1))) = some r := by rw [if_neg (show ¬ (false = true) by decide)] at H; exact H
              clear H
              have H := H1
              clear H1
              have H' := Am H
              clear H
              have p273 : 0 ≤ (x52_2 : Int) := of_decide_eq_true (by assumption)
              have q273 : x52_2 < (x5_1.length : Int) := of_decide_eq_true (by assumption)
              obtain ⟨ad273, e273, hx273_0⟩ := Kd.at_bool (Kd.R_reads' HO_50.out).2.2 x52_2 p273 q273
              (try rw [← Nbq40.out] at hx273_0)
              obtain rfl : (⟨go7, 0, none⟩ : Addr) = ad273 := (by injection e273)
              (first | simp only [add_plain] at hx273_0 | simp only [add_at] at hx273_0 | simp only [Addr.add, Nat.zero_add] at hx273_0 | skip)
              replace p273 := eq_true p273
              replace q273 := eq_true q273
              go_wp2
              go_roundg k2
              case measure => have := HK1.out; have := HK2.out; omega
              case rel => exact ⟨(x9_2), (wrap64 (x52_2 + 1)), (by first | rfl | (simp; done) | (simp [*]; done)), H', ⟨by have := HK1.out; have := HK2.out; omega⟩, ⟨by (try simp only [hl5_1]); (with_reducible repeat (first | apply Ra | apply Rn | apply Rd)); exact HO_9.out⟩, ⟨by (try simp only [hl5_1]); (with_reducible repeat (first | apply Ra | apply Rn | apply Rd)); exact HO_50.out⟩, ⟨by repeat (first | exact HB.out | apply Ba | apply Bn | apply Bd)⟩⟩
            ·rw [if_neg c39] at H
             exact absurd H (by simp)
           ·rw [if_neg c38] at H
            exact absurd H (by simp)
          ·rw [if_neg c37] at H
           have c37b0 : decide (x52_2 < (x5_1.length : Int)) = false := decide_eq_false c37
           clear c37
           obtain rfl := Option.some.inj H
           go_wp2
           go_ret
           exact ⟨_, by first | rfl | (simp [*, errW_none, errW_some] <;> rfl), by (with_reducible repeat (first | apply Ra | apply Rn | apply Rd)); exact HO_9.out, by repeat (first | exact HB.out | apply Ba | apply Bn | apply Bd)⟩
    ·rw [if_neg c6] at H
     exact absurd H (by simp)
   ·rw [if_neg c5] at H
    exact absurd H (by simp)
  ·rw [if_neg c4] at H
   exact absurd H (by simp)
 ·rw [if_neg c3] at H
  exact absurd H (by simp)
end Go.Proofs.Ytpboalgecejoeaa.QFnOrders
