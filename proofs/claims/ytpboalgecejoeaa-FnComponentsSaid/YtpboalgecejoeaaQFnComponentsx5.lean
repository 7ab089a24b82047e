-- Written by a program of this session (wip/mk.py) over the kit's print: Lean checks it.
import Derived.Test.YtpboalgecejoeaaQFnComponentsx0
import Derived.Test.YtpboalgecejoeaaQFnComponentsx1
import Derived.Test.YtpboalgecejoeaaQFnComponentsx3
namespace Go.Proofs.Ytpboalgecejoeaa.QFnComponents
open Go.Proofs.YtpboalgecejoeaaW.PrintWords.Kd renaming R_drew → Rd
open Go.Proofs.YtpboalgecejoeaaW.PrintWords renaming below_alloc → Ba, pw_below_drewN → Bn, below_drew1 → Bd, below_set → Bs, below_size → Bz, below_step → Bt, gate_dst → Gd, box_event → Be, blk_alloc → Ka, blk_drewN → Kn, blk_drew → Ke, blk_below → Kb, blk_cell → Kc, blk_frozen → Kz
open List renaming setIfInBounds_toArray → Lt, set_cons_zero → Lz, set_cons_succ → Ls
open Go.World renaming block_lt_of_cell? → bl_
open Go.Proofs.YtpboalgecejoeaaW.PrintWords.Aside0 renaming mk → Am
open Go.Proofs.YtpboalgecejoeaaW.PrintWords renaming Aside0 → Ad
open Go.RowKit Go.Proofs.YtpboalgecejoeaaW.PrintWords Go.Proofs.YtpboalgecejoeaaW.PrintLast Go.Proofs.YtpboalgecejoeaaW.PrintMore
attribute [local go_sem] max2_int min2_int max_two min_two max_three min_three max_four min_four   -- for this text's walks alone
set_option linter.unusedVariables false
set_option linter.unusedSimpArgs false
def impl_components_1_1.f (k : Nat) (a0 : Int) (l1_0 : List Bool) (l2_0 : List Int) : Option (Bool) := if 0 ≤ a0 then (if a0 < (l1_0.length : Int) then (if rdOf false l1_0 a0 = true then (some false) else ((slices_Contains_int_int.f k l2_0 a0).bind fun t207 => (some (!t207)))) else (none)) else (none)
theorem impl_components_1_1.mono : ∀ a0 a1 a2 k, LeO (impl_components_1_1.f k a0 a1 a2) (impl_components_1_1.f (k + 1) a0 a1 a2) := by
 intro a0 a1 a2 k
 unfold impl_components_1_1.f
 repeat' first
   | (with_reducible exact slices_Contains_int_int.mono _ _ _)
   | (with_reducible exact LeO.refl _)
   | (with_reducible exact LeO.none _)
   | (with_reducible refine LeO.ite ?_ ?_)
   | (with_reducible refine LeO.bind ?_ (fun _ => ?_))
   | exact slices_Contains_int_int.mono _ _ _
   | exact LeO.none _
   | refine LeO.ite ?_ ?_
   | refine LeO.bind ?_ (fun _ => ?_)
set_option maxHeartbeats 8000000 in
set_option maxRecDepth 100000 in
theorem impl_components_1_1.calls (k : Nat) (a0 : Int) (gq1 : Nat) (A1_0 : Option Addr) (c1_0 : Nat) (l1_0 : List Bool) (gq2 : Nat) (A2_0 : Option Addr) (c2_0 : Nat) (l2_0 : List Int) (r : Bool) (w : World) (hr1_0 : Kd.C Kd.bool w A1_0 l1_0.length l1_0) (hc1_0 : l1_0.length ≤ c1_0) (hr2_0 : Kd.C (Kd.int .i64) w A2_0 l2_0.length l2_0) (hc2_0 : l2_0.length ≤ c2_0) (hb1 : w.heap[gq1]? = some (.cells #[.slice A1_0 l1_0.length c1_0] 129 (0, 0))) (hb2 : w.heap[gq2]? = some (.cells #[.slice A2_0 l2_0.length c2_0] 23 (0, 0))) (h : impl_components_1_1.f k a0 l1_0 l2_0 = some r) :
  Calls Try.prog 113 #[.int .i64 a0, .pointer (some ⟨gq1, 0, none⟩), .pointer (some ⟨gq2, 0, none⟩)] w fun e w' => e = .returned (.bool r) ∧ Drawn0 w w' := by
 have HR1_0 := Am hr1_0
 have HC1_0 := Am hc1_0
 clear hr1_0 hc1_0
 have HR2_0 := Am hr2_0
 have HC2_0 := Am hc2_0
 clear hr2_0 hc2_0
 have BK204 := Am hb1
 clear hb1
 have BK205 := Am hb2
 clear hb2
 have NB204_205 := Am (show gq1 ≠ gq2 from fun e_ => by have h_ := BK204.out; rw [e_, BK205.out] at h_; injection h_ with h_; injection h_ with _ h2_; exact absurd h2_ (by decide))
 have NB205_204 := Am (show gq2 ≠ gq1 from fun e_ => by have h_ := BK205.out; rw [e_, BK204.out] at h_; injection h_ with h_; injection h_ with _ h2_; exact absurd h2_ (by decide))
 have H : (if 0 ≤ a0 then (if a0 < (l1_0.length : Int) then (if rdOf false l1_0 a0 = true then (some false) else ((slices_Contains_int_int.f k l2_0 a0).bind fun t207 => (some (!t207)))) else (none)) else (none)) = some r := h
 clear h
 by_cases c4 : 0 ≤ a0
 ·rw [if_pos c4] at H
  have c4b0 : decide (0 ≤ a0) = true := decide_eq_true c4
  clear c4
  by_cases c5 : a0 < (l1_0.length : Int)
  ·rw [if_pos c5] at H
   have c5b0 : decide (a0 < (l1_0.length : Int)) = true := decide_eq_true c5
   clear c5
   obtain ⟨bq6, hbq6⟩ : ∃ b_ : Bool, b_ = (rdOf false l1_0 a0) := ⟨_, rfl⟩
   replace H : (if bq6 = true then (some false) else ((slices_Contains_int_int.f k l2_0 a0).bind fun t207 => (some (!t207)))) = some r := by rw [← hbq6] at H; exact H
   have Nbq6 := Am hbq6
   clear hbq6
   by_cases c7 : bq6 = true
   ·subst c7
    have H1 : (some false) = some r := by rw [if_pos rfl] at H; exact H
    clear H
    have H := H1
    clear H1
    obtain rfl := Option.some.inj H
    have hnb8 := NB204_205.out
    have hnc8 := NB205_204.out
    have hcz9_0 : w.cell? ⟨gq1, 0, none⟩ = some (.slice A1_0 l1_0.length c1_0) := (Kc BK204.out 0).trans rfl
    have hfz9_0 := Kz BK204.out 0
    have p206 : 0 ≤ (a0 : Int) := of_decide_eq_true (by assumption)
    have q206 : a0 < (l1_0.length : Int) := of_decide_eq_true (by assumption)
    obtain ⟨ad206, e206, hx206_0⟩ := Kd.at_bool HR1_0.out a0 p206 q206
    (try rw [← Nbq6.out] at hx206_0)
    cases e206
    replace p206 := eq_true p206
    replace q206 := eq_true q206
    go_enter Try.func113, Try.ntmps113
    go_wp2
    go_ret
    exact ⟨by first | rfl | (simp; done) | (simp [*]; done), by repeat (first | exact Drawn0.refl _ | apply Drawn0.step)⟩
   ·replace c7 := Bool.eq_false_iff.mpr c7
    subst c7
    have H1 : ((slices_Contains_int_int.f k l2_0 a0).bind fun t207 => (some (!t207))) = some r := by rw [if_neg (show ¬ (false = true) by decide)] at H; exact H
    clear H
    have H := H1
    clear H1
    replace H := Option.bind_eq_some_iff.mp H
    obtain ⟨t207, A100, H⟩ := H
    replace H : (some (!t207)) = some r := H
    have A10 := Am A100
    clear A100
    obtain rfl := Option.some.inj H
    have hnb11 := NB204_205.out
    have hnc11 := NB205_204.out
    have hcz12_0 : w.cell? ⟨gq1, 0, none⟩ = some (.slice A1_0 l1_0.length c1_0) := (Kc BK204.out 0).trans rfl
    have hfz12_0 := Kz BK204.out 0
    have p206 : 0 ≤ (a0 : Int) := of_decide_eq_true (by assumption)
    have q206 : a0 < (l1_0.length : Int) := of_decide_eq_true (by assumption)
    obtain ⟨ad206, e206, hx206_0⟩ := Kd.at_bool HR1_0.out a0 p206 q206
    (try rw [← Nbq6.out] at hx206_0)
    cases e206
    replace p206 := eq_true p206
    replace q206 := eq_true q206
    have hcz13_0 : w.cell? ⟨gq2, 0, none⟩ = some (.slice A2_0 l2_0.length c2_0) := (Kc BK205.out 0).trans rfl
    have hfz13_0 := Kz BK205.out 0
    go_enter Try.func113, Try.ntmps113
    go_wp2_with (first | (go_at_call 57; (with_reducible refine (slices_Contains_int_int.calls k _ _ l2_0 a0 t207 _ ?side1 ?side2 A10.out).mono ?_); (case side1 => repeat (first | exact HR2_0.out | (with_reducible refine Kd.C_alloc ?_ _) | (with_reducible refine Kd.C_drewN ?_ _) | (with_reducible refine Kd.C_drew ?_))); (case side2 => exact HC2_0.out); rintro e w' ⟨rfl, ⟨nd, rfl⟩⟩))
    go_ret
    exact ⟨by first | rfl | (simp; done) | (simp [*]; done), by repeat (first | exact Drawn0.refl _ | apply Drawn0.step)⟩
  ·rw [if_neg c5] at H
   exact absurd H (by simp)
 ·rw [if_neg c4] at H
  exact absurd H (by simp)
def impl_components_1_1_in_c.f (k : Nat) (l0 : List Int) (ll0_0 : List Bool) (ll1_0 : List Int) : Option Bool := Mine.anyO (fun x : Int => impl_components_1_1.f k x ll0_0 ll1_0) l0
theorem impl_components_1_1_in_c.mono : ∀ a0 b0 b1 k, LeO (impl_components_1_1_in_c.f k a0 b0 b1) (impl_components_1_1_in_c.f (k + 1) a0 b0 b1) := by
 intro a0 b0 b1 k
 unfold impl_components_1_1_in_c.f
 exact Mine.anyO_mono (fun (x : Int) b_ hb_ => impl_components_1_1.mono x b0 b1 k b_ hb_) a0
set_option maxHeartbeats 2000000 in
theorem impl_components_1_1_in_c.calls (k : Nat) (A0 : Option Addr) (c0 : Nat) (l0 : List Int) (gq0 : Nat) (AA0_0 : Option Addr) (cc0_0 : Nat) (ll0_0 : List Bool) (gq1 : Nat) (AA1_0 : Option Addr) (cc1_0 : Nat) (ll1_0 : List Int) (r : Bool) (w : World) (hr0 : Kd.C (Kd.int .i64) w A0 l0.length l0) (hc0 : l0.length ≤ c0) (hr10_0 : Kd.C Kd.bool w AA0_0 ll0_0.length ll0_0) (hc10_0 : ll0_0.length ≤ cc0_0) (hr11_0 : Kd.C (Kd.int .i64) w AA1_0 ll1_0.length ll1_0) (hc11_0 : ll1_0.length ≤ cc1_0) (hb0 : w.heap[gq0]? = some (.cells #[.slice AA0_0 ll0_0.length cc0_0] 129 (0, 0))) (hb1 : w.heap[gq1]? = some (.cells #[.slice AA1_0 ll1_0.length cc1_0] 23 (0, 0))) (h : impl_components_1_1_in_c.f k l0 ll0_0 ll1_0 = some r) :
  Calls Try.prog 72 #[.slice A0 l0.length c0, .func (.func 113) #[] #[.pointer (some ⟨gq0, 0, none⟩), .pointer (some ⟨gq1, 0, none⟩)]] w fun e w' => e = .returned (.bool r) ∧ Below w.heap.size w w' :=
 slices_ContainsFunc_int_int_72.anyO 113 #[.pointer (some ⟨gq0, 0, none⟩), .pointer (some ⟨gq1, 0, none⟩)] (fun x : Int => impl_components_1_1.f k x ll0_0 ll1_0) A0 c0 l0 w r (fun args w => enters_ Try.func113 (by kernel_rfl) rfl args w) hr0 hc0
  (fun W x hx bW b hb_ => (impl_components_1_1.calls k x gq0 AA0_0 cc0_0 ll0_0 gq1 AA1_0 cc1_0 ll1_0 b W (Kd.C_below hr10_0 bW) hc10_0 (Kd.C_below hr11_0 bW) hc11_0 (Kb hb0 bW) (Kb hb1 bW) hb_).mono (fun e w' hh => ⟨hh.1, hh.2.below⟩)) h
def impl_components_1.f (k : Nat) (l0 : List Int) (l1_0 : List (List Int)) (l2_0 : List Bool) : Option (Bool) := if 0 < (l0.length : Int) then (if 0 ≤ (rd l0 0) then (if (rd l0 0) < (l1_0.length : Int) then ((impl_components_1_1_in_c.f k (rd_L2 l1_0 (rd l0 0)) l2_0 l0).bind fun t213 => (some (!t213))) else (none)) else (none)) else (none)
theorem impl_components_1.mono : ∀ a0 a1 a2 k, LeO (impl_components_1.f k a0 a1 a2) (impl_components_1.f (k + 1) a0 a1 a2) := by
 intro a0 a1 a2 k
 unfold impl_components_1.f
 repeat' first
   | (with_reducible exact impl_components_1_1_in_c.mono _ _ _ _)
   | (with_reducible exact LeO.refl _)
   | (with_reducible exact LeO.none _)
   | (with_reducible refine LeO.ite ?_ ?_)
   | (with_reducible refine LeO.bind ?_ (fun _ => ?_))
   | exact impl_components_1_1_in_c.mono _ _ _ _
   | exact LeO.none _
   | refine LeO.ite ?_ ?_
   | refine LeO.bind ?_ (fun _ => ?_)
def impl_components_1.T1 : Bool × List (List Nat × List Nat) := (true, [([], []), ([], []), ([1], [1]), ([2], [2]), ([0, 3], [0, 3]), ([4], [4]), ([], []), ([5, 6], [5, 6]), ([7], [7]), ([8, 7, 0, 1, 2, 3, 4, 5, 6, 7, 8], [8])])
def impl_components_1.B1 : List Nat := [0, 0, 2, 6, 15, 31, 0, 127, 255, 511]
theorem impl_components_1.tab1 : rtab .any (opsOf Try.f112 1) = impl_components_1.T1 := by kernel_rfl
theorem impl_components_1.bits1 : waitsOk impl_components_1.T1.2 impl_components_1.B1 = true := by kernel_rfl
set_option maxHeartbeats 8000000 in
set_option maxRecDepth 100000 in
theorem impl_components_1.calls (k : Nat) (A0 : Option Addr) (c0 : Nat) (l0 : List Int) (gq1 : Nat) (A1_0 : Option Addr) (c1_0 : Nat) (l1_0 : List (List Int)) (gq2 : Nat) (A2_0 : Option Addr) (c2_0 : Nat) (l2_0 : List Bool) (r : Bool) (w : World) (hr0 : Kd.C (Kd.int .i64) w A0 l0.length l0) (hc0 : l0.length ≤ c0) (hr1_0 : Kd.C (Kd.slice 3 (Kd.int .i64)) w A1_0 l1_0.length l1_0) (hc1_0 : l1_0.length ≤ c1_0) (hr2_0 : Kd.C Kd.bool w A2_0 l2_0.length l2_0) (hc2_0 : l2_0.length ≤ c2_0) (hb1 : w.heap[gq1]? = some (.cells #[.slice A1_0 l1_0.length c1_0] 22 (0, 0))) (hb2 : w.heap[gq2]? = some (.cells #[.slice A2_0 l2_0.length c2_0] 129 (0, 0))) (h : impl_components_1.f k l0 l1_0 l2_0 = some r) :
  Calls Try.prog 112 #[.slice A0 l0.length c0, .pointer (some ⟨gq1, 0, none⟩), .pointer (some ⟨gq2, 0, none⟩)] w fun e w' => e = .returned (.bool r) ∧ Below w.heap.size w w' := by
 have HR0 := Am hr0
 have HC0 := Am hc0
 clear hr0 hc0
 have HR1_0 := Am hr1_0
 have HC1_0 := Am hc1_0
 clear hr1_0 hc1_0
 have HR2_0 := Am hr2_0
 have HC2_0 := Am hc2_0
 clear hr2_0 hc2_0
 have BK208 := Am hb1
 clear hb1
 have BK209 := Am hb2
 clear hb2
 have NB208_209 := Am (show gq1 ≠ gq2 from fun e_ => by have h_ := BK208.out; rw [e_, BK209.out] at h_; injection h_ with h_; injection h_ with _ h2_; exact absurd h2_ (by decide))
 have NB209_208 := Am (show gq2 ≠ gq1 from fun e_ => by have h_ := BK209.out; rw [e_, BK208.out] at h_; injection h_ with h_; injection h_ with _ h2_; exact absurd h2_ (by decide))
 have HB := Am (Below.refl w.heap.size w)
 have H : (if 0 < (l0.length : Int) then (if 0 ≤ (rd l0 0) then (if (rd l0 0) < (l1_0.length : Int) then ((impl_components_1_1_in_c.f k (rd_L2 l1_0 (rd l0 0)) l2_0 l0).bind fun t213 => (some (!t213))) else (none)) else (none)) else (none)) = some r := h
 clear h
 by_cases c4 : 0 < (l0.length : Int)
 ·rw [if_pos c4] at H
  have c4b0 : decide (0 < (l0.length : Int)) = true := decide_eq_true c4
  have c4b1 : decide (0 < l0.length) = true := decide_eq_true (by omega)
  clear c4
  by_cases c5 : 0 ≤ (rd l0 0)
  ·rw [if_pos c5] at H
   have c5b0 : decide (0 ≤ (rd l0 0)) = true := decide_eq_true c5
   clear c5
   by_cases c6 : (rd l0 0) < (l1_0.length : Int)
   ·rw [if_pos c6] at H
    have c6b0 : decide ((rd l0 0) < (l1_0.length : Int)) = true := decide_eq_true c6
    clear c6
    replace H := Option.bind_eq_some_iff.mp H
    obtain ⟨t213, A70, H⟩ := H
    replace H : (some (!t213)) = some r := H
    have A7 := Am A70
    clear A70
    obtain rfl := Option.some.inj H
    go_enter Try.func112, Try.ntmps112
    try go_wp2_with (first | ((refine Gd (N := 3) rfl ?_); refine Be ?hg (N := 3) ?hd (cs := #[.slice A0 l0.length c0]) (t := 23) ?hr ?_; (case hd | hg => rfl); (case hr => first | (go_simp; done) | (go_simp; rfl)); intro gb210 hg w8 hbox hb; have n0_ := Am (Kb (g := gq1) (o := .cells #[.slice A1_0 l1_0.length c1_0] 22 (0, 0)) (by (with_reducible repeat (first | refine Kn ?_ _ | refine Ke ?_ | refine Ka ?_ _)); exact BK208.out) hb); have n1_ := Am (Kb (g := gq2) (o := .cells #[.slice A2_0 l2_0.length c2_0] 129 (0, 0)) (by (with_reducible repeat (first | refine Kn ?_ _ | refine Ke ?_ | refine Ka ?_ _)); exact BK209.out) hb); have n2_ := Am (Bt (by repeat (first | (with_reducible first | exact HB.out | apply Ba | apply Bn | apply Bd | refine Bs ?_ GE208.out | refine Bs ?_ GE209.out) | exact HB.out)) hb); have n3_ := Am (hbox); have n4_ := Am ((by rw [hg]; exact (Bz (by repeat (first | (with_reducible first | exact HB.out | apply Ba | apply Bn | apply Bd | refine Bs ?_ GE208.out | refine Bs ?_ GE209.out) | exact HB.out))) : w.heap.size ≤ gb210)); have n5_ := Am ((by rw [hg]; exact (Bz (by repeat (first | (with_reducible first | exact HB.out | apply Ba | apply Bn | apply Bd | refine Bs ?_ GE208.out | refine Bs ?_ GE209.out) | exact HB.out))) : w.heap.size ≤ gb210)); have n6_ := Am ((by rw [hg]; exact Nat.ne_of_lt (blk_lt (g := gq1) (o := .cells #[.slice A1_0 l1_0.length c1_0] 22 (0, 0)) (by (with_reducible repeat (first | refine Kn ?_ _ | refine Ke ?_ | refine Ka ?_ _)); exact BK208.out)) : gq1 ≠ gb210)); have n7_ := Am ((by rw [hg]; exact Nat.ne_of_gt (blk_lt (g := gq1) (o := .cells #[.slice A1_0 l1_0.length c1_0] 22 (0, 0)) (by (with_reducible repeat (first | refine Kn ?_ _ | refine Ke ?_ | refine Ka ?_ _)); exact BK208.out)) : gb210 ≠ gq1)); have n8_ := Am ((by rw [hg]; exact Nat.ne_of_lt (blk_lt (g := gq2) (o := .cells #[.slice A2_0 l2_0.length c2_0] 129 (0, 0)) (by (with_reducible repeat (first | refine Kn ?_ _ | refine Ke ?_ | refine Ka ?_ _)); exact BK209.out)) : gq2 ≠ gb210)); have n9_ := Am ((by rw [hg]; exact Nat.ne_of_gt (blk_lt (g := gq2) (o := .cells #[.slice A2_0 l2_0.length c2_0] 129 (0, 0)) (by (with_reducible repeat (first | refine Kn ?_ _ | refine Ke ?_ | refine Ka ?_ _)); exact BK209.out)) : gb210 ≠ gq2)); clear BK208; clear BK209; clear HB; have BK208 := n0_; have BK209 := n1_; have HB := n2_; have BK210 := n3_; have GW210 := n4_; have GE210 := n5_; have NB208_210 := n6_; have NB210_208 := n7_; have NB209_210 := n8_; have NB210_209 := n9_; clear n0_ n1_ n2_ n3_ n4_ n5_ n6_ n7_ n8_ n9_; clear hb hbox hg))
    have n0_ := Am (Ke BK208.out)
    have n1_ := Am (Ke BK209.out)
    have n2_ := Am (Ke BK210.out)
    have n3_ := Am (Bd HB.out)
    clear BK208
    clear BK209
    clear BK210
    clear HB
    have BK208 := n0_
    have BK209 := n1_
    have BK210 := n2_
    have HB := n3_
    clear n0_ n1_ n2_ n3_
    have p211 : 0 ≤ (0 : Int) := (by omega)
    have q211 : 0 < (l0.length : Int) := of_decide_eq_true (by assumption)
    obtain ⟨ad211, e211, hx211_0⟩ := Kd.at_int HR0.out 0 p211 q211
    have hw211_0 := hx211_0
    (try rw [show ((0 : Int)).toNat = 0 from rfl] at hw211_0)
    (try rw [show 0 * 1 = 0 from rfl] at hw211_0)
    (try rw [Addr.add_zero'] at hw211_0)
    cases e211
    have qi211 : (0 < l0.length) = True := eq_true (by omega)
    (try rw [show ((0 : Int)).toNat = 0 from rfl] at hx211_0)
    (try rw [Addr.add_zero'] at hx211_0)
    replace hx211_0 := (HB.out.cell (bl_ w _ hx211_0)).trans hx211_0
    replace p211 := eq_true p211
    replace q211 := eq_true q211
    have p212 : 0 ≤ ((rd l0 0) : Int) := of_decide_eq_true (by assumption)
    have q212 : (rd l0 0) < (l1_0.length : Int) := of_decide_eq_true (by assumption)
    obtain ⟨ad212, A212_0, c212_0, e212, hx212_0, hl212_0, hi212_0⟩ := at_L2 HR1_0.out (rd l0 0) p212 q212
    have hw212_0 := hx212_0
    cases e212
    replace hx212_0 := (HB.out.cell (bl_ w _ hx212_0)).trans hx212_0
    have HR212_0 := Am hi212_0
    have HC212_0 := Am hl212_0
    clear hi212_0 hl212_0
    replace p212 := eq_true p212
    replace q212 := eq_true q212
    refine start_ (n := 10) (S := fun w' => w'.cell? ⟨gq1, 0, none⟩ = some (.slice (some ad212) l1_0.length c1_0) ∧ w'.cell? ⟨gb210, 0, none⟩ = some (.slice (some ad211) l0.length c0) ∧ w'.cell? ad211 = some (.int .i64 (rd l0 0)) ∧ w'.cell? (ad212.add ((rd l0 0)).toNat) = some (.slice A212_0 (rd_L2 l1_0 (rd l0 0)).length c212_0)) (ds := []) #[false, false, false, false, false, false, false, false, false, false] (by kernel_rfl) rfl rfl ⟨(Kc BK208.out 0).trans rfl, (Kc BK210.out 0).trans rfl, ((HB.out.cell (bl_ w _ hw211_0)).trans hw211_0), ((HB.out.cell (bl_ w _ hw212_0)).trans hw212_0)⟩ (fun hHeld => ?_); refine with_tabW impl_components_1.tab1 impl_components_1.bits1 (fun HT_ HW_ => ?_)
    generalize w8.drew = w9 at BK208 BK209 BK210 HB HR212_0 hx211_0 hx212_0 hHeld ⊢
    refine pure_ (i := 6) (N := some 11) (v := ?_) (a' := ?_) #[false, false, false, false, false, false, true, false, false, false] rfl rfl (any_of HT_.out (by kernel_rfl)) (fun _ _ _ h => h) (Or.inl ⟨by rfl, ?_⟩) ?_ ?_
    rotate_left
    ·intro w'
     go_simp
     with_reducible rfl
    rotate_left
    ·simp only [Act.put, Lt, Lz, Ls, i64_w, i32_w]
     rfl
    refine take_ (i := 0) (N := some 5) (v := ?_) (a' := ?_) #[true, false, false, false, false, false, true, false, false, false] rfl rfl (take_ofW HT_.out HW_.out (by kernel_rfl)) (fun _ _ _ h => h) (Or.inl ⟨by rfl, ?_⟩) hHeld ?_ ?_
    rotate_left
    ·rintro w' ⟨s0, s1, s2, s3⟩
     go_simp
     with_reducible rfl
    rotate_left
    ·simp only [Act.put, Lt, Lz, Ls, i64_w, i32_w]
     rfl
    refine take_ (i := 1) (N := some 6) (v := ?_) (a' := ?_) #[true, true, false, false, false, false, true, false, false, false] rfl rfl (take_ofW HT_.out HW_.out (by kernel_rfl)) (fun _ _ _ h => h) (Or.inl ⟨by rfl, ?_⟩) hHeld ?_ ?_
    rotate_left
    ·rintro w' ⟨s0, s1, s2, s3⟩
     go_simp
     with_reducible rfl
    rotate_left
    ·simp only [Act.put, Lt, Lz, Ls, i64_w, i32_w]
     rfl
    refine pure_ (i := 2) (N := some 7) (v := ?_) (a' := ?_) #[true, true, true, false, false, false, true, false, false, false] rfl rfl (any_of HT_.out (by kernel_rfl)) (fun _ _ _ h => h) (Or.inl ⟨by rfl, ?_⟩) ?_ ?_
    rotate_left
    ·intro w'
     go_simp
     with_reducible rfl
    rotate_left
    ·simp only [Act.put, Lt, Lz, Ls, i64_w, i32_w]
     rfl
    refine take_ (i := 3) (N := some 8) (v := ?_) (a' := ?_) #[true, true, true, true, false, false, true, false, false, false] rfl rfl (take_ofW HT_.out HW_.out (by kernel_rfl)) (fun _ _ _ h => h) (Or.inl ⟨by rfl, ?_⟩) hHeld ?_ ?_
    rotate_left
    ·rintro w' ⟨s0, s1, s2, s3⟩
     go_simp
     with_reducible rfl
    rotate_left
    ·simp only [Act.put, Lt, Lz, Ls, i64_w, i32_w]
     rfl
    refine pure_ (i := 4) (N := some 9) (v := ?_) (a' := ?_) #[true, true, true, true, true, false, true, false, false, false] rfl rfl (any_of HT_.out (by kernel_rfl)) (fun _ _ _ h => h) (Or.inl ⟨by rfl, ?_⟩) ?_ ?_
    rotate_left
    ·intro w'
     go_simp
     with_reducible rfl
    rotate_left
    ·simp only [Act.put, Lt, Lz, Ls, i64_w, i32_w]
     rfl
    refine take_ (i := 5) (N := some 10) (v := ?_) (a' := ?_) #[true, true, true, true, true, true, true, false, false, false] rfl rfl (take_ofW HT_.out HW_.out (by kernel_rfl)) (fun _ _ _ h => h) (Or.inl ⟨by rfl, ?_⟩) hHeld ?_ ?_
    rotate_left
    ·rintro w' ⟨s0, s1, s2, s3⟩
     go_simp
     with_reducible rfl
    rotate_left
    ·simp only [Act.put, Lt, Lz, Ls, i64_w, i32_w]
     rfl
    refine one_ (i := 7) (N := some 12) #[true, true, true, true, true, true, true, true, false, false] rfl rfl (one_of HT_.out (by kernel_rfl)) (by decide) (fun K hK => ?_)
    refine goes_ Try.func72 (by kernel_rfl) rfl #[.slice A212_0 (rd_L2 l1_0 (rd l0 0)).length c212_0, .func (.func 113) #[] #[.pointer (some ⟨gq2, 0, none⟩), .pointer (some ⟨gb210, 0, none⟩)]] (by rfl) rfl rfl (by first | rfl | (simp only [List.map_toArray, List.map_cons, List.map_nil]; first | done | rfl)) ?_
    with_reducible refine (impl_components_1_1_in_c.calls k _ _ (rd_L2 l1_0 (rd l0 0)) gq2 A2_0 c2_0 l2_0 gb210 (some ad211) c0 l0 t213 _ ?side1 ?side2 ?side3 ?side4 ?side5 ?side6 ?side7 ?side8 A7.out).mono ?_
    (case side1 => repeat (first | exact (Kd.C_below HR212_0.out HB.out) | (with_reducible refine Kd.C_alloc ?_ _) | (with_reducible refine Kd.C_drewN ?_ _) | (with_reducible refine Kd.C_drew ?_)))
    (case side2 => exact HC212_0.out)
    (case side3 => repeat (first | exact (Kd.C_below HR2_0.out HB.out) | (with_reducible refine Kd.C_alloc ?_ _) | (with_reducible refine Kd.C_drewN ?_ _) | (with_reducible refine Kd.C_drew ?_)))
    (case side4 => exact HC2_0.out)
    (case side5 => repeat (first | exact (Kd.C_below HR0.out HB.out) | (with_reducible refine Kd.C_alloc ?_ _) | (with_reducible refine Kd.C_drewN ?_ _) | (with_reducible refine Kd.C_drew ?_)))
    (case side6 => exact HC0.out)
    (case side7 => exact by (with_reducible repeat (first | refine Kn ?_ _ | refine Ke ?_ | refine Ka ?_ _)); exact BK209.out)
    (case side8 => exact by (with_reducible repeat (first | refine Kn ?_ _ | refine Ke ?_ | refine Ka ?_ _)); exact BK210.out)
    rintro e w10 ⟨rfl, hb⟩
    refine ⟨_, rfl, ?_⟩
    have n0_ := Am (Kb (g := gq1) (o := .cells #[.slice (some ad212) l1_0.length c1_0] 22 (0, 0)) (by (with_reducible repeat (first | refine Kn ?_ _ | refine Ke ?_ | refine Ka ?_ _)); exact BK208.out) hb)
    have n1_ := Am (Kb (g := gq2) (o := .cells #[.slice A2_0 l2_0.length c2_0] 129 (0, 0)) (by (with_reducible repeat (first | refine Kn ?_ _ | refine Ke ?_ | refine Ka ?_ _)); exact BK209.out) hb)
    have n2_ := Am (Kb (g := gb210) (o := .cells #[.slice (some ad211) l0.length c0] 23 (0, 0)) (by (with_reducible repeat (first | refine Kn ?_ _ | refine Ke ?_ | refine Ka ?_ _)); exact BK210.out) hb)
    have n3_ := Am (Bt (by repeat (first | (with_reducible first | exact HB.out | apply Ba | apply Bn | apply Bd | refine Bs ?_ GE208.out | refine Bs ?_ GE209.out | refine Bs ?_ GE210.out) | exact HB.out)) hb)
    clear BK208
    clear BK209
    clear BK210
    clear HB
    have BK208 := n0_
    have BK209 := n1_
    have BK210 := n2_
    have HB := n3_
    clear n0_ n1_ n2_ n3_
    (try clear hb)
    (try clear hb2)
    (try clear hk)
    (try clear hi)
    refine hK.out _ _ ⟨(Kc BK208.out 0).trans rfl, (Kc BK210.out 0).trans rfl, ((HB.out.cell (bl_ w _ hw211_0)).trans hw211_0), ((HB.out.cell (bl_ w _ hw212_0)).trans hw212_0)⟩ (fun hHeld => ?_)
    clear hK K
    refine norm_ (a' := ?_) ?_ ?_
    rotate_left
    ·show Act.put _ (some 12) _ = _
     simp only [Act.put, Lt, Lz, Ls, i64_w, i32_w]
     rfl
    refine pure_ (i := 8) (N := some 13) (v := ?_) (a' := ?_) #[true, true, true, true, true, true, true, true, true, false] rfl rfl (any_of HT_.out (by kernel_rfl)) (fun _ _ _ h => h) (Or.inl ⟨by rfl, ?_⟩) ?_ ?_
    rotate_left
    ·intro w'
     go_simp
     with_reducible rfl
    rotate_left
    ·simp only [Act.put, Lt, Lz, Ls, i64_w, i32_w]
     rfl
    refine pure_ (i := 9) (N := some 4) (v := ?_) (a' := ?_) #[true, true, true, true, true, true, true, true, true, true] rfl rfl (any_of HT_.out (by kernel_rfl)) (fun _ _ _ h => h) (Or.inl ⟨by rfl, ?_⟩) ?_ ?_
    rotate_left
    ·intro w'
     go_simp
     with_reducible rfl
    rotate_left
    ·simp only [Act.put, Lt, Lz, Ls, i64_w, i32_w]
     rfl
    refine done_ (done_of HT_.out (by kernel_rfl)) ?_
    try go_wp2
    go_ret
    exact ⟨by first | rfl | (simp [*, errW_none, errW_some] <;> rfl), by repeat (first | (with_reducible first | exact HB.out | apply Ba | apply Bn | apply Bd | refine Bs ?_ GE208.out | refine Bs ?_ GE209.out | refine Bs ?_ GE210.out) | exact HB.out)⟩
   ·rw [if_neg c6] at H
    exact absurd H (by simp)
  ·rw [if_neg c5] at H
   exact absurd H (by simp)
 ·rw [if_neg c4] at H
  exact absurd H (by simp)
set_option maxHeartbeats 8000000 in
set_option maxRecDepth 100000 in
theorem slices_Delete_int_int.del (i n n1 m1 g cap : Nat) (hs : List Hd) (ok : Nat → Prop) (w0 w : World) (hn : hs.length = n) (hn1 : n = n1 + 1) (hm : m1 = i + 1) (hi : i < n) (HOk : Kd.hd.R 23 w w0.heap.size ok (.slice (some ⟨g, 0, none⟩) n cap) hs) (hB : Below w0.heap.size w0 w) :
  Calls Try.prog 114 #[.slice (some ⟨g, 0, none⟩) n cap, .int .i64 i, .int .i64 m1] w fun e w' => e = .returned (.slice (some ⟨g, 0, none⟩) n1 cap) ∧ Kd.hd.R 23 w' w0.heap.size ok (.slice (some ⟨g, 0, none⟩) n1 cap) (hs.eraseIdx i) ∧ Below w0.heap.size w0 w' ∧ w.grownBy w' (some g) := by
 have hcap : n ≤ cap := (Kd.R_reads' HOk).2.1
 have hmax : n ≤ 9223372036854775807 := by have := (Kd.R_reads' HOk).2.2.2.1; omega
 have hg0 : w0.heap.size ≤ g := Kd.R_base HOk g rfl
 have HO := Am HOk
 have HB := Am hB
 have HN := Am hn
 have HN1 := Am hn1
 have HM1 := Am hm
 have HG0 := Am hg0
 have e1 : n - 1 = n1 := by omega
 have HE1 := Am e1
 have hi0 : (0 : Int) ≤ (i : Int) := by omega
 have him : (i : Int) ≤ (m1 : Int) := by omega
 have hmn : (m1 : Int) ≤ (n : Int) := by omega
 have hnc : (n : Int) ≤ (cap : Int) := by omega
 have hine : ((i : Int) == (m1 : Int)) = false := beq_false_of_ne (by omega)
 have hn1c : ¬ cap = n1 := by omega
 have hn10 : (0 : Int) ≤ (n1 : Int) := by omega
 have hn1n : (n1 : Int) ≤ (n : Int) := by omega
 obtain ⟨i0_, hi0_, _, hsz_, _⟩ := info_parts info23
 have hinfo : (Try.prog.info? 23).map (·.size) = some 1 := by rw [hi0_, Option.map_some, hsz_]
 have HINF := Am hinfo
 have hcut0 : ∀ W : World, ∃ v, (Instr.slice 22 (.slice (some ⟨g, 0, none⟩) n cap) (some (.int .i64 (i : Int))) (some (.int .i64 (m1 : Int))) (some (.int .i64 (n : Int)))).run Try.prog W = .ok v W := fun W => by
  have hel : Try.prog.elem 22 = 23 := by simp [Program.elem, Try.underlying22]
  have hu : Try.prog.underlying 22 = some (.slice (Try.prog.elem 22)) := by rw [hel]; exact Try.underlying22
  rw [run_slice_lhm W 22 (some ⟨g, 0, none⟩) n cap hu .i64 .i64 .i64 (i : Int) (m1 : Int) (n : Int) (by omega) (by omega) (by omega) (by omega), hel]
  simp [sizeOf, typeInfo, hi0_, sliced, Result.andThen]
 obtain ⟨v0, hv0⟩ := hcut0 w
 have hcut1 := cut_to (P := Try.prog) 22 23 .i64 Try.underlying22 hi0_ (some ⟨g, 0, none⟩) n cap (i : Int) hi0 (by omega) hcap
 simp only [Int.toNat_natCast] at hcut1
 have hcut2 := cut_from (P := Try.prog) 22 23 .i64 Try.underlying22 hi0_ 1 hsz_ (some ⟨g, 0, none⟩) n cap (m1 : Int) (by omega) hmn
 simp only [Int.toNat_natCast] at hcut2
 obtain ⟨A1, hA1⟩ : ∃ A1 : Option Addr, A1 = if cap = m1 then some ⟨g, 0, none⟩ else (some (⟨g, 0, none⟩ : Addr)).map (·.add (m1 * 1)) := ⟨_, rfl⟩
 rw [← hA1] at hcut2
 have HA1 : Ad (A1 = if cap = i + 1 then some ⟨g, 0, none⟩ else (some (⟨g, 0, none⟩ : Addr)).map (·.add ((i + 1) * 1))) := ⟨by rw [hA1, hm]⟩
 clear hA1 HOk hB hn hn1 hm hg0 e1 hcut0 hi0_ hsz_ hinfo
 go_enter Try.func114, Try.ntmps114
 go_wp2
 go_region_law (refine Kd.del_step (w0 := w0) w0.heap.size rfl (.tmp 22) (.tmp 25) 22 23 rfl Try.underlying22 HINF.out (g := g) (n := n) (c := cap) (k := i) (m := n - m1) (c2 := cap - m1) (A := A1) (xs := hs) (ok := ok) (by simp [Act.eval, Act.put]) (by simp [Act.eval, Act.put]) HA1.out (by rw [HM1.out]) (Rd HO.out) hi (below_drew HB.out) HB.out.size ?_; intro w1 ho hb hg; rw [HE1.out] at ho; rw [HE1.out]; have HO1 := Am ho; have HB1 := Am hb; have HG1 := Am hg; clear ho hb hg)
 clear hcut1 hcut2 hv0 HO HB
 obtain ⟨cells, hh, hcs⟩ := Kd.hd_room HO1.out
 have hcl : ∀ ty, (Builtin.clear_ #[22] ty #[.slice (some ⟨g, n1, none⟩) (n - n1) (cap - n1)]).run Try.prog w1 = .ok (.tuple #[]) (w1.setCells g n1 (List.replicate (n - n1) (.slice none 0 0))) := fun ty => Lib.run_clear_slice w1 22 23 ty (.slice none 0 0) Try.underlying22 (fun w => by rfl) rfl rfl g n1 (n - n1) (cap - n1) (by have := HN1.out; omega) (fun j hj => by rw [Kc hh]; have := HN1.out; simp; omega) (fun j hj => Kz hh _)
 clear hh hcs
 have HO2 := Am (Kd.hd_past (vs := List.replicate (n - n1) (.slice none 0 0)) HO1.out (Nat.le_refl _) (by rw [List.length_replicate]; have := HN1.out; omega))
 have HB2 : Ad (Below w0.heap.size w0 (w1.setCells g n1 (List.replicate (n - n1) (.slice none 0 0)))) := ⟨by
  obtain ⟨s1, s2, s3, s4⟩ := setCells_same g (List.replicate (n - n1) (.slice none 0 0)) n1 w1
  have hb := HB1.out
  exact ⟨s1.trans hb.os, s2.trans hb.tape, s3.trans hb.output, by rw [s4]; exact hb.size, fun k hk => (setCells_far _ _ k (by have := HG0.out; omega)).trans (hb.block k hk)⟩⟩
 have HG2 : Ad (w.grownBy (w1.setCells g n1 (List.replicate (n - n1) (.slice none 0 0))) (some g)) := ⟨by
  obtain ⟨s1, s2, s3, s4⟩ := setCells_same g (List.replicate (n - n1) (.slice none 0 0)) n1 w1
  have hb := HG1.out
  have h0 : w.grownBy w.drew (some g) := ⟨rfl, rfl, rfl, Nat.le_refl _, fun _ _ _ => rfl⟩
  exact ⟨s1.trans hb.os, s2.trans hb.tape, s3.trans hb.output, by rw [s4]; exact hb.size, fun k hk hne => (setCells_far _ _ k (fun h => hne (by rw [h]))).trans (hb.block k hk hne)⟩⟩
 go_wp2
 go_ret
 exact ⟨rfl, HO2.out, HB2.out, HG2.out⟩
end Go.Proofs.Ytpboalgecejoeaa.QFnComponents
