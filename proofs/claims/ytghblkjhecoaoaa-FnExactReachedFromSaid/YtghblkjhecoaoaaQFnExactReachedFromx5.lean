-- Written by a program of this session (wip/mk.py) over the kit's print: Lean checks it.
import Derived.Test.YtghblkjhecoaoaaQFnExactReachedFromx0
import Derived.Test.YtghblkjhecoaoaaQFnExactReachedFromx1
import Derived.Test.YtghblkjhecoaoaaQFnExactReachedFromx3
import Derived.Test.YtghblkjhecoaoaaQFnExactReachedFromx4
namespace Go.Proofs.Ytghblkjhecoaoaa.QFnExactReachedFrom
open Go.RowKit Go.Proofs.YtghblkjhecoaoaaW.PrintWords Go.Proofs.YtghblkjhecoaoaaW.PrintLast Go.Proofs.YtghblkjhecoaoaaW.PrintMore
attribute [local go_sem] max2_int min2_int max_two min_two max_three min_three max_four min_four   -- for this text's walks alone
set_option linter.unusedVariables false
set_option linter.unusedSimpArgs false

/-! ### laws_heldIntS: function 25 -/
def laws_heldIntS.l0 : Nat → List Int → Int → Int → Option (Int)
  | 0, _, _, _ => none
  | k + 1, x0, x1, x5 => if x5 < (x0.length : Int) then (if 0 ≤ x5 then (if (rd x0 x5) = x1 then (laws_heldIntS.l0 k x0 (wrap64 (x1 + 1)) (wrap64 (x5 + 1))) else (some (-1))) else (none)) else (some x1)
def laws_heldIntS.f (k : Nat) (l0 : List Int) (a1 : Int) : Option (Int) := laws_heldIntS.l0 k l0 a1 0
theorem laws_heldIntS.mono_l : ∀ k, (∀ y0 y1 y2, LeO (laws_heldIntS.l0 k y0 y1 y2) (laws_heldIntS.l0 (k + 1) y0 y1 y2))
  | 0 => fun _ _ _ r h => by simp [laws_heldIntS.l0] at h
  | k + 1 => by
    have ih0 := laws_heldIntS.mono_l k
    · intro y0 y1 y2
      unfold laws_heldIntS.l0
      repeat' first
      | (with_reducible exact ih0 _ _ _)
      | (with_reducible exact LeO.refl _)
      | (with_reducible exact LeO.none _)
      | (with_reducible refine LeO.ite ?_ ?_)
      | (with_reducible refine LeO.bind ?_ (fun _ => ?_))
      | exact ih0 _ _ _
      | exact LeO.none _
      | refine LeO.ite ?_ ?_
      | refine LeO.bind ?_ (fun _ => ?_)
theorem laws_heldIntS.mono : ∀ a0 a1 k, LeO (laws_heldIntS.f k a0 a1) (laws_heldIntS.f (k + 1) a0 a1) := by
  intro a0 a1 k
  have ih0 := laws_heldIntS.mono_l k
  unfold laws_heldIntS.f
  repeat' first
      | (with_reducible exact ih0 _ _ _)
      | (with_reducible exact LeO.refl _)
      | (with_reducible exact LeO.none _)
      | (with_reducible refine LeO.ite ?_ ?_)
      | (with_reducible refine LeO.bind ?_ (fun _ => ?_))
      | exact ih0 _ _ _
      | exact LeO.none _
      | refine LeO.ite ?_ ?_
      | refine LeO.bind ?_ (fun _ => ?_)
set_option maxHeartbeats 8000000 in
set_option maxRecDepth 100000 in
theorem laws_heldIntS.calls (k : Nat) (A0 : Option Addr) (c0 : Nat) (l0 : List Int) (a1 : Int) (r : Int) (w : World) (hr0 : Kd.C (Kd.int .i64) w A0 l0.length l0) (hc0 : l0.length ≤ c0) (h : laws_heldIntS.f k l0 a1 = some r) :
    Calls Try.prog 25 #[.slice A0 l0.length c0, .int .i64 a1] w fun e w' => e = .returned (.int .i64 r) ∧ Drawn0 w w' := by
  have HR0 := Aside0.mk hr0
  have HC0 := Aside0.mk hc0
  clear hr0 hc0
  have H : (laws_heldIntS.l0 k l0 a1 0) = some r := h
  clear h
  have H' := Aside0.mk H
  clear H
  go_enter Try.func25, Try.ntmps25
  go_wp2
  go_loopg [1, 5] k (fun kq v1 v5 w' => ∃ (x1_1 : Int) (x5_1 : Int), v1 = .int .i64 x1_1 ∧ v5 = .int .i64 x5_1 ∧ Aside0 (laws_heldIntS.l0 kq l0 x1_1 x5_1 = some r) ∧ Aside0 (kq ≤ k) ∧ Drawn0 w w')
  case atStart => exact ⟨(a1), (0), (by first | rfl | (simp; done) | (simp [*]; done)), (by first | rfl | (simp; done) | (simp [*]; done)), H', ⟨Nat.le_refl _⟩, by repeat (first | exact Drawn0.refl _ | apply Drawn0.step)⟩
  case round =>
    clear H'
    try clear c2
    try clear p2
    obtain ⟨x1_1, x5_1, rfl, rfl, HA, HK1, ⟨m1, rfl⟩⟩ := hrel
    cases gk with
    | zero => exact absurd HA.out (by simp [laws_heldIntS.l0])
    | succ k1 =>
      have H := HA.out
      clear HA
      simp only [laws_heldIntS.l0] at H
      by_cases c3 : x5_1 < (l0.length : Int)
      · rw [if_pos c3] at H
        have c3b0 : decide (x5_1 < (l0.length : Int)) = true := decide_eq_true c3
        clear c3
        by_cases c4 : 0 ≤ x5_1
        · rw [if_pos c4] at H
          have c4b0 : decide (0 ≤ x5_1) = true := decide_eq_true c4
          clear c4
          by_cases c5 : (rd l0 x5_1) = x1_1
          · rw [if_pos c5] at H
            have c5b0 : ((rd l0 x5_1) == x1_1) = true := beq_iff_eq.mpr c5
            have c5b1 : ((rd l0 x5_1) != x1_1) = false := bne_eq_false_iff_eq.mpr c5
            clear c5
            have H' := Aside0.mk H
            clear H
            have p227 : 0 ≤ (x5_1 : Int) := of_decide_eq_true (by first | (with_reducible assumption) | assumption)
            have q227 : x5_1 < (l0.length : Int) := of_decide_eq_true (by first | (with_reducible assumption) | assumption)
            obtain ⟨ad227, e227, hx227_0⟩ := Kd.at_int HR0.out x5_1 p227 q227
            cases e227
            replace p227 := eq_true p227
            replace q227 := eq_true q227
            go_wp2
            go_roundg k1
            case measure => have := HK1.out; omega
            case rel => exact ⟨(wrap64 (x1_1 + 1)), (wrap64 (x5_1 + 1)), (by first | rfl | (simp; done) | (simp [*]; done)), (by first | rfl | (simp; done) | (simp [*]; done)), H', ⟨by have := HK1.out; omega⟩, by repeat (first | exact Drawn0.refl _ | apply Drawn0.step)⟩
          · rw [if_neg c5] at H
            have c5b0 : ((rd l0 x5_1) == x1_1) = false := beq_eq_false_iff_ne.mpr c5
            have c5b1 : ((rd l0 x5_1) != x1_1) = true := bne_iff_ne.mpr c5
            obtain rfl := Option.some.inj H
            have p227 : 0 ≤ (x5_1 : Int) := of_decide_eq_true (by first | (with_reducible assumption) | assumption)
            have q227 : x5_1 < (l0.length : Int) := of_decide_eq_true (by first | (with_reducible assumption) | assumption)
            obtain ⟨ad227, e227, hx227_0⟩ := Kd.at_int HR0.out x5_1 p227 q227
            cases e227
            replace p227 := eq_true p227
            replace q227 := eq_true q227
            go_wp2
            go_ret
            exact ⟨by first | rfl | (simp; done) | (simp [*]; done), by repeat (first | exact Drawn0.refl _ | apply Drawn0.step)⟩
        · rw [if_neg c4] at H
          exact absurd H (by simp)
      · rw [if_neg c3] at H
        have c3b0 : decide (x5_1 < (l0.length : Int)) = false := decide_eq_false c3
        clear c3
        obtain rfl := Option.some.inj H
        go_wp2
        go_ret
        exact ⟨by first | rfl | (simp; done) | (simp [*]; done), by repeat (first | exact Drawn0.refl _ | apply Drawn0.step)⟩

/-! ### laws_FnExactReachedFrom: function 4 -/
/-- What the law's calls answer. -/
def laws_FnExactReachedFrom.Facts (l0 : List (List Int)) (a1 : Int) : Prop :=
  ∃ z1 : Int, (∃ K, laws_szIntSS.f K l0 1048576 = some z1) ∧ (z1 < 0 ∨ (0 ≤ z1 ∧ (∃ K, laws_toIntSS.f K l0 = some l0) ∧ ∃ r2 : List Int, ∃ r3 : Bool, (∃ K, spec_ReachedFrom.f K l0 a1 = some (r2, r3)) ∧ (∃ K, impl_ReachedFrom.f K l0 a1 = some (r2, r3)) ∧ (∃ K, laws_eqIntS.f K r2 r2 = some true) ∧ (∃ K, laws_eqIntSS.f K l0 l0 = some true) ∧ ∃ m4 : Int, ∃ rm4 : List (List Int), (∃ K, 0 ≤ m4 ∧ laws_markIntSS.f K l0 1 = some (m4, rm4)) ∧ ∃ m5 : Int, ∃ rm5 : List Int, (∃ K, 0 ≤ m5 ∧ laws_markIntS.f K r2 1 = some (m5, rm5)) ∧ (∃ K, laws_heldIntS.f K rm5 1 = some m5) ∧ True))
set_option maxHeartbeats 8000000 in
set_option maxRecDepth 100000 in
theorem laws_FnExactReachedFrom.calls (A0 : Option Addr) (c0 : Nat) (l0 : List (List Int)) (a1 : Int) (w : World) (hr0 : Kd.C (Kd.slice 3 (Kd.int .i64)) w A0 l0.length l0) (hc0 : l0.length ≤ c0) (h : laws_FnExactReachedFrom.Facts l0 a1) :
    Calls Try.prog 4 #[.slice A0 l0.length c0, .int .i64 a1] w fun e w' => e = .returned (.bool true) ∧ Below w.heap.size w w' := by
  unfold laws_FnExactReachedFrom.Facts at h
  have HR0 := Aside0.mk hr0
  have HC0 := Aside0.mk hc0
  clear hr0 hc0
  have HF := Aside0.mk h
  clear h
  have HB := Aside0.mk (Below.refl w.heap.size w)
  obtain ⟨z1, ⟨Kz1, hs⟩, hF⟩ := HF.out
  clear HF
  have HF := Aside0.mk hF
  clear hF
  have HSz1 := Aside0.mk hs
  clear hs
  go_enter Try.func4, Try.ntmps4
  go_wp2_with fail
  (refine (laws_szIntSS.calls Kz1 A0 c0 l0 1048576 z1 w (Kd.C_below HR0.out HB.out) HC0.out HSz1.out).mono ?_)
  rintro e w1 ⟨rfl, hd⟩
  have hb := hd.below
  clear hd
  have Z1 : Aside0 (w.heap.size ≤ w1.heap.size) := ⟨hb.size⟩
  have hb_ := Aside0.mk (below_then HB.out HB.out.size hb)
  clear HB
  have HB := hb_
  clear hb_
  clear hb
  rcases HF.out with hneg | ⟨hpos, hF⟩
  · clear HF
    go_wp2
    go_ret
    exact ⟨rfl, HB.out⟩
  clear HF
  have HF := Aside0.mk hF
  clear hF
  obtain ⟨⟨K1, h1⟩, hF⟩ := HF.out
  clear HF
  have HF := Aside0.mk hF
  clear hF
  have H1 := Aside0.mk h1
  clear h1
  go_wp2_with fail
  (refine (laws_toIntSS.calls K1 A0 c0 l0 l0 w1 (Kd.C_below HR0.out HB.out) HC0.out H1.out).mono ?_)
  rintro e w2 ⟨v0_, rfl, hS0, hb⟩
  have X1 : Aside0 (Kd.S (Kd.slice 3 (Kd.int .i64)) 27 w2 w.heap.size (fun k => w1.heap.size ≤ k ∧ k < w2.heap.size) v0_ l0) := ⟨Kd.S_mono (Kd.S_lower (Kd.S_bound hS0) HB.out.size) (fun k hk => ⟨hk.2.1, hk.2.2.1⟩)⟩
  have Z2 : Aside0 (w1.heap.size ≤ w2.heap.size) := ⟨hb.size⟩
  have hb_ := Aside0.mk (below_then HB.out HB.out.size hb)
  clear HB
  have HB := hb_
  clear hb_
  clear hb hS0
  obtain ⟨A1_, c1_, rfl⟩ := Kd.S_slice X1.out
  obtain ⟨r2, r3, ⟨K2, h2⟩, hF⟩ := HF.out
  clear HF
  have HF := Aside0.mk hF
  clear hF
  have H2 := Aside0.mk h2
  clear h2
  go_wp2_with fail
  (refine (spec_ReachedFrom.calls K2 A1_ c1_ l0 a1 r2 r3 w2 (Kd.S_reads' X1.out).2.2 (Kd.S_reads' X1.out).2.1 H2.out).mono ?_)
  rintro e w3 ⟨v0_, rfl, hS0, hb⟩
  have X2 : Aside0 (Kd.R (Kd.int .i64) 3 w3 w.heap.size (fun k => w2.heap.size ≤ k ∧ k < w3.heap.size) v0_ r2) := ⟨Kd.R_mono (Kd.R_lower (Kd.R_bound hS0) HB.out.size) (fun k hk => ⟨hk.2.1, hk.2.2.1⟩)⟩
  have Z3 : Aside0 (w2.heap.size ≤ w3.heap.size) := ⟨hb.size⟩
  have n0_ := Aside0.mk (Kd.S_below X1.out hb)
  have hb_ := Aside0.mk (below_then HB.out HB.out.size hb)
  clear X1
  have X1 := n0_
  clear n0_
  clear HB
  have HB := hb_
  clear hb_
  clear hb hS0
  obtain ⟨A2_, c2_, rfl⟩ := Kd.R_slice X2.out
  go_wp2_with fail
  (refine (laws_toIntSS.calls K1 A0 c0 l0 l0 w3 (Kd.C_below HR0.out HB.out) HC0.out H1.out).mono ?_)
  rintro e w4 ⟨v0_, rfl, hS0, hb⟩
  have X3 : Aside0 (Kd.S (Kd.slice 3 (Kd.int .i64)) 27 w4 w.heap.size (fun k => w3.heap.size ≤ k ∧ k < w4.heap.size) v0_ l0) := ⟨Kd.S_mono (Kd.S_lower (Kd.S_bound hS0) HB.out.size) (fun k hk => ⟨hk.2.1, hk.2.2.1⟩)⟩
  have Z4 : Aside0 (w3.heap.size ≤ w4.heap.size) := ⟨hb.size⟩
  have n0_ := Aside0.mk (Kd.S_below X1.out hb)
  have n1_ := Aside0.mk (Kd.R_below X2.out hb)
  have hb_ := Aside0.mk (below_then HB.out HB.out.size hb)
  clear X1 X2
  have X1 := n0_
  have X2 := n1_
  clear n0_ n1_
  clear HB
  have HB := hb_
  clear hb_
  clear hb hS0
  obtain ⟨A3_, c3_, rfl⟩ := Kd.S_slice X3.out
  obtain ⟨⟨K3, h3⟩, hF⟩ := HF.out
  clear HF
  have HF := Aside0.mk hF
  clear hF
  have H3 := Aside0.mk h3
  clear h3
  go_wp2_with fail
  (refine (impl_ReachedFrom.calls K3 A3_ c3_ l0 a1 r2 r3 w4 (Kd.S_reads' X3.out).2.2 (Kd.S_reads' X3.out).2.1 H3.out).mono ?_)
  rintro e w5 ⟨v0_, rfl, hS0, hb⟩
  have X4 : Aside0 (Kd.R (Kd.int .i64) 3 w5 w.heap.size (fun k => w4.heap.size ≤ k ∧ k < w5.heap.size) v0_ r2) := ⟨Kd.R_mono (Kd.R_lower (Kd.R_bound hS0) HB.out.size) (fun k hk => ⟨hk.2.1, hk.2.2.1⟩)⟩
  have Z5 : Aside0 (w4.heap.size ≤ w5.heap.size) := ⟨hb.size⟩
  have n0_ := Aside0.mk (Kd.S_below X1.out hb)
  have n1_ := Aside0.mk (Kd.R_below X2.out hb)
  have n2_ := Aside0.mk (Kd.S_below X3.out hb)
  have hb_ := Aside0.mk (below_then HB.out HB.out.size hb)
  clear X1 X2 X3
  have X1 := n0_
  have X2 := n1_
  have X3 := n2_
  clear n0_ n1_ n2_
  clear HB
  have HB := hb_
  clear hb_
  clear hb hS0
  obtain ⟨A4_, c4_, rfl⟩ := Kd.R_slice X4.out
  obtain ⟨⟨K4, h4⟩, hF⟩ := HF.out
  clear HF
  have HF := Aside0.mk hF
  clear hF
  have H4 := Aside0.mk h4
  clear h4
  go_wp2_with fail
  (refine (laws_eqIntS.calls K4 A4_ c4_ r2 A2_ c2_ r2 true w5 (Kd.R_reads' X4.out).2.2 (Kd.R_reads' X4.out).2.1 (Kd.R_reads' X2.out).2.2 (Kd.R_reads' X2.out).2.1 H4.out).mono ?_)
  rintro e w6 ⟨rfl, hd⟩
  have hb := hd.below
  clear hd
  have Z6 : Aside0 (w5.heap.size ≤ w6.heap.size) := ⟨hb.size⟩
  have n0_ := Aside0.mk (Kd.S_below X1.out hb)
  have n1_ := Aside0.mk (Kd.R_below X2.out hb)
  have n2_ := Aside0.mk (Kd.S_below X3.out hb)
  have n3_ := Aside0.mk (Kd.R_below X4.out hb)
  have hb_ := Aside0.mk (below_then HB.out HB.out.size hb)
  clear X1 X2 X3 X4
  have X1 := n0_
  have X2 := n1_
  have X3 := n2_
  have X4 := n3_
  clear n0_ n1_ n2_ n3_
  clear HB
  have HB := hb_
  clear hb_
  clear hb
  go_wp2_with fail
  (refine (laws_toIntSS.calls K1 A0 c0 l0 l0 w6 (Kd.C_below HR0.out HB.out) HC0.out H1.out).mono ?_)
  rintro e w7 ⟨v0_, rfl, hS0, hb⟩
  have X5 : Aside0 (Kd.S (Kd.slice 3 (Kd.int .i64)) 27 w7 w.heap.size (fun k => w6.heap.size ≤ k ∧ k < w7.heap.size) v0_ l0) := ⟨Kd.S_mono (Kd.S_lower (Kd.S_bound hS0) HB.out.size) (fun k hk => ⟨hk.2.1, hk.2.2.1⟩)⟩
  have Z7 : Aside0 (w6.heap.size ≤ w7.heap.size) := ⟨hb.size⟩
  have n0_ := Aside0.mk (Kd.S_below X1.out hb)
  have n1_ := Aside0.mk (Kd.R_below X2.out hb)
  have n2_ := Aside0.mk (Kd.S_below X3.out hb)
  have n3_ := Aside0.mk (Kd.R_below X4.out hb)
  have hb_ := Aside0.mk (below_then HB.out HB.out.size hb)
  clear X1 X2 X3 X4
  have X1 := n0_
  have X2 := n1_
  have X3 := n2_
  have X4 := n3_
  clear n0_ n1_ n2_ n3_
  clear HB
  have HB := hb_
  clear hb_
  clear hb hS0
  obtain ⟨A5_, c5_, rfl⟩ := Kd.S_slice X5.out
  obtain ⟨⟨K5, h5⟩, hF⟩ := HF.out
  clear HF
  have HF := Aside0.mk hF
  clear hF
  have H5 := Aside0.mk h5
  clear h5
  go_wp2_with fail
  (refine (laws_eqIntSS.calls K5 A3_ c3_ l0 A5_ c5_ l0 true w7 (Kd.S_reads' X3.out).2.2 (Kd.S_reads' X3.out).2.1 (Kd.S_reads' X5.out).2.2 (Kd.S_reads' X5.out).2.1 H5.out).mono ?_)
  rintro e w8 ⟨rfl, hd⟩
  have hb := hd.below
  clear hd
  have Z8 : Aside0 (w7.heap.size ≤ w8.heap.size) := ⟨hb.size⟩
  have n0_ := Aside0.mk (Kd.S_below X1.out hb)
  have n1_ := Aside0.mk (Kd.R_below X2.out hb)
  have n2_ := Aside0.mk (Kd.S_below X3.out hb)
  have n3_ := Aside0.mk (Kd.R_below X4.out hb)
  have n4_ := Aside0.mk (Kd.S_below X5.out hb)
  have hb_ := Aside0.mk (below_then HB.out HB.out.size hb)
  clear X1 X2 X3 X4 X5
  have X1 := n0_
  have X2 := n1_
  have X3 := n2_
  have X4 := n3_
  have X5 := n4_
  clear n0_ n1_ n2_ n3_ n4_
  clear HB
  have HB := hb_
  clear hb_
  clear hb
  obtain ⟨m4, rm4, ⟨K6, h6⟩, hF⟩ := HF.out
  clear HF
  have HF := Aside0.mk hF
  clear hF
  have H6 := Aside0.mk h6
  clear h6
  go_wp2_with fail
  (refine (laws_markIntSS.calls K6 (fun k => w3.heap.size ≤ k ∧ k < w4.heap.size) _ l0 1 m4 rm4 w w8 HB.out X3.out H6.out.2).mono ?_)
  rintro e w9 ⟨rfl, hS, hb, hk⟩
  have hm4 := H6.out.1
  have Z9 : Aside0 (w8.heap.size ≤ w9.heap.size) := ⟨hk.1⟩
  have n0_ := Aside0.mk (Kd.S_kept X1.out hk (fun k h1_ h2_ => by have := Z1.out; have := Z2.out; have := Z3.out; have := Z4.out; have := Z5.out; have := Z6.out; have := Z7.out; have := Z8.out; (try dsimp only at h1_ h2_); omega))
  have n1_ := Aside0.mk (Kd.R_kept X2.out hk (fun k h1_ h2_ => by have := Z1.out; have := Z2.out; have := Z3.out; have := Z4.out; have := Z5.out; have := Z6.out; have := Z7.out; have := Z8.out; (try dsimp only at h1_ h2_); omega))
  have n2_ := Aside0.mk (hS)
  have n3_ := Aside0.mk (Kd.R_kept X4.out hk (fun k h1_ h2_ => by have := Z1.out; have := Z2.out; have := Z3.out; have := Z4.out; have := Z5.out; have := Z6.out; have := Z7.out; have := Z8.out; (try dsimp only at h1_ h2_); omega))
  have n4_ := Aside0.mk (Kd.S_kept X5.out hk (fun k h1_ h2_ => by have := Z1.out; have := Z2.out; have := Z3.out; have := Z4.out; have := Z5.out; have := Z6.out; have := Z7.out; have := Z8.out; (try dsimp only at h1_ h2_); omega))
  have hb_ := Aside0.mk (hb)
  clear X1 X2 X3 X4 X5
  have X1 := n0_
  have X2 := n1_
  have X3 := n2_
  have X4 := n3_
  have X5 := n4_
  clear n0_ n1_ n2_ n3_ n4_
  clear HB
  have HB := hb_
  clear hb_
  clear hS hb hk
  go_wp2_with fail
  (refine (laws_eqIntS.calls K4 A4_ c4_ r2 A2_ c2_ r2 true w9 (Kd.R_reads' X4.out).2.2 (Kd.R_reads' X4.out).2.1 (Kd.R_reads' X2.out).2.2 (Kd.R_reads' X2.out).2.1 H4.out).mono ?_)
  rintro e w10 ⟨rfl, hd⟩
  have hb := hd.below
  clear hd
  have Z10 : Aside0 (w9.heap.size ≤ w10.heap.size) := ⟨hb.size⟩
  have n0_ := Aside0.mk (Kd.S_below X1.out hb)
  have n1_ := Aside0.mk (Kd.R_below X2.out hb)
  have n2_ := Aside0.mk (Kd.S_below X3.out hb)
  have n3_ := Aside0.mk (Kd.R_below X4.out hb)
  have n4_ := Aside0.mk (Kd.S_below X5.out hb)
  have hb_ := Aside0.mk (below_then HB.out HB.out.size hb)
  clear X1 X2 X3 X4 X5
  have X1 := n0_
  have X2 := n1_
  have X3 := n2_
  have X4 := n3_
  have X5 := n4_
  clear n0_ n1_ n2_ n3_ n4_
  clear HB
  have HB := hb_
  clear hb_
  clear hb
  obtain ⟨m5, rm5, ⟨K7, h7⟩, hF⟩ := HF.out
  clear HF
  have HF := Aside0.mk hF
  clear hF
  have H7 := Aside0.mk h7
  clear h7
  go_wp2_with fail
  (refine (laws_markIntS.calls K7 (fun k => some k = (Value.slice A4_ (r2.length) c4_).ownBlock) _ r2 1 m5 rm5 w w10 HB.out (Kd.R_tight rfl X4.out) H7.out.2).mono ?_)
  rintro e w11 ⟨rfl, hS, hb, hk⟩
  have hm5 := H7.out.1
  have Z11 : Aside0 (w10.heap.size ≤ w11.heap.size) := ⟨hk.1⟩
  have n0_ := Aside0.mk (Kd.S_kept X1.out hk (fun k h1_ h2_ => by have h3_ := X4.out.1 k h2_.symm; have := Z1.out; have := Z2.out; have := Z3.out; have := Z4.out; have := Z5.out; have := Z6.out; have := Z7.out; have := Z8.out; have := Z9.out; have := Z10.out; (try dsimp only at h1_ h3_); omega))
  have n1_ := Aside0.mk (Kd.R_kept X2.out hk (fun k h1_ h2_ => by have h3_ := X4.out.1 k h2_.symm; have := Z1.out; have := Z2.out; have := Z3.out; have := Z4.out; have := Z5.out; have := Z6.out; have := Z7.out; have := Z8.out; have := Z9.out; have := Z10.out; (try dsimp only at h1_ h3_); omega))
  have n2_ := Aside0.mk (Kd.S_kept X3.out hk (fun k h1_ h2_ => by have h3_ := X4.out.1 k h2_.symm; have := Z1.out; have := Z2.out; have := Z3.out; have := Z4.out; have := Z5.out; have := Z6.out; have := Z7.out; have := Z8.out; have := Z9.out; have := Z10.out; (try dsimp only at h1_ h3_); omega))
  have n3_ := Aside0.mk (Kd.R_reok rfl hS (fun k hk => X4.out.1 k hk))
  have n4_ := Aside0.mk (Kd.S_kept X5.out hk (fun k h1_ h2_ => by have h3_ := X4.out.1 k h2_.symm; have := Z1.out; have := Z2.out; have := Z3.out; have := Z4.out; have := Z5.out; have := Z6.out; have := Z7.out; have := Z8.out; have := Z9.out; have := Z10.out; (try dsimp only at h1_ h3_); omega))
  have hb_ := Aside0.mk (hb)
  clear X1 X2 X3 X4 X5
  have X1 := n0_
  have X2 := n1_
  have X3 := n2_
  have X4 := n3_
  have X5 := n4_
  clear n0_ n1_ n2_ n3_ n4_
  clear HB
  have HB := hb_
  clear hb_
  clear hS hb hk
  obtain ⟨⟨K8, h8⟩, hF⟩ := HF.out
  clear HF
  have HF := Aside0.mk hF
  clear hF
  have H8 := Aside0.mk h8
  clear h8
  go_wp2_with fail
  have hc_ := laws_heldIntS.calls K8 A4_ c4_ rm5 1 m5 w11 (Kd.R_reads' X4.out).2.2 (Nat.le_trans (Nat.le_of_eq (Kd.R_reads' X4.out).1.symm) (Kd.R_reads' X4.out).2.1) H8.out
  rw [← (Kd.R_reads' X4.out).1] at hc_
  (refine (hc_).mono ?_)
  clear hc_
  rintro e w12 ⟨rfl, hd⟩
  have hb := hd.below
  clear hd
  have Z12 : Aside0 (w11.heap.size ≤ w12.heap.size) := ⟨hb.size⟩
  have n0_ := Aside0.mk (Kd.S_below X1.out hb)
  have n1_ := Aside0.mk (Kd.R_below X2.out hb)
  have n2_ := Aside0.mk (Kd.S_below X3.out hb)
  have n3_ := Aside0.mk (Kd.R_below X4.out hb)
  have n4_ := Aside0.mk (Kd.S_below X5.out hb)
  have hb_ := Aside0.mk (below_then HB.out HB.out.size hb)
  clear X1 X2 X3 X4 X5
  have X1 := n0_
  have X2 := n1_
  have X3 := n2_
  have X4 := n3_
  have X5 := n4_
  clear n0_ n1_ n2_ n3_ n4_
  clear HB
  have HB := hb_
  clear hb_
  clear hb
  go_wp2_with fail
  (refine (laws_toIntSS.calls K1 A0 c0 l0 l0 w12 (Kd.C_below HR0.out HB.out) HC0.out H1.out).mono ?_)
  rintro e w13 ⟨v0_, rfl, hS0, hb⟩
  have X6 : Aside0 (Kd.S (Kd.slice 3 (Kd.int .i64)) 27 w13 w.heap.size (fun k => w12.heap.size ≤ k ∧ k < w13.heap.size) v0_ l0) := ⟨Kd.S_mono (Kd.S_lower (Kd.S_bound hS0) HB.out.size) (fun k hk => ⟨hk.2.1, hk.2.2.1⟩)⟩
  have Z13 : Aside0 (w12.heap.size ≤ w13.heap.size) := ⟨hb.size⟩
  have n0_ := Aside0.mk (Kd.S_below X1.out hb)
  have n1_ := Aside0.mk (Kd.R_below X2.out hb)
  have n2_ := Aside0.mk (Kd.S_below X3.out hb)
  have n3_ := Aside0.mk (Kd.R_below X4.out hb)
  have n4_ := Aside0.mk (Kd.S_below X5.out hb)
  have hb_ := Aside0.mk (below_then HB.out HB.out.size hb)
  clear X1 X2 X3 X4 X5
  have X1 := n0_
  have X2 := n1_
  have X3 := n2_
  have X4 := n3_
  have X5 := n4_
  clear n0_ n1_ n2_ n3_ n4_
  clear HB
  have HB := hb_
  clear hb_
  clear hb hS0
  obtain ⟨A6_, c6_, rfl⟩ := Kd.S_slice X6.out
  go_wp2_with fail
  (refine (impl_ReachedFrom.calls K3 A6_ c6_ l0 a1 r2 r3 w13 (Kd.S_reads' X6.out).2.2 (Kd.S_reads' X6.out).2.1 H3.out).mono ?_)
  rintro e w14 ⟨v0_, rfl, hS0, hb⟩
  have X7 : Aside0 (Kd.R (Kd.int .i64) 3 w14 w.heap.size (fun k => w13.heap.size ≤ k ∧ k < w14.heap.size) v0_ r2) := ⟨Kd.R_mono (Kd.R_lower (Kd.R_bound hS0) HB.out.size) (fun k hk => ⟨hk.2.1, hk.2.2.1⟩)⟩
  have Z14 : Aside0 (w13.heap.size ≤ w14.heap.size) := ⟨hb.size⟩
  have n0_ := Aside0.mk (Kd.S_below X1.out hb)
  have n1_ := Aside0.mk (Kd.R_below X2.out hb)
  have n2_ := Aside0.mk (Kd.S_below X3.out hb)
  have n3_ := Aside0.mk (Kd.R_below X4.out hb)
  have n4_ := Aside0.mk (Kd.S_below X5.out hb)
  have n5_ := Aside0.mk (Kd.S_below X6.out hb)
  have hb_ := Aside0.mk (below_then HB.out HB.out.size hb)
  clear X1 X2 X3 X4 X5 X6
  have X1 := n0_
  have X2 := n1_
  have X3 := n2_
  have X4 := n3_
  have X5 := n4_
  have X6 := n5_
  clear n0_ n1_ n2_ n3_ n4_ n5_
  clear HB
  have HB := hb_
  clear hb_
  clear hb hS0
  obtain ⟨A7_, c7_, rfl⟩ := Kd.R_slice X7.out
  go_wp2_with fail
  (refine (laws_eqIntS.calls K4 A7_ c7_ r2 A2_ c2_ r2 true w14 (Kd.R_reads' X7.out).2.2 (Kd.R_reads' X7.out).2.1 (Kd.R_reads' X2.out).2.2 (Kd.R_reads' X2.out).2.1 H4.out).mono ?_)
  rintro e w15 ⟨rfl, hd⟩
  have hb := hd.below
  clear hd
  have Z15 : Aside0 (w14.heap.size ≤ w15.heap.size) := ⟨hb.size⟩
  have n0_ := Aside0.mk (Kd.S_below X1.out hb)
  have n1_ := Aside0.mk (Kd.R_below X2.out hb)
  have n2_ := Aside0.mk (Kd.S_below X3.out hb)
  have n3_ := Aside0.mk (Kd.R_below X4.out hb)
  have n4_ := Aside0.mk (Kd.S_below X5.out hb)
  have n5_ := Aside0.mk (Kd.S_below X6.out hb)
  have n6_ := Aside0.mk (Kd.R_below X7.out hb)
  have hb_ := Aside0.mk (below_then HB.out HB.out.size hb)
  clear X1 X2 X3 X4 X5 X6 X7
  have X1 := n0_
  have X2 := n1_
  have X3 := n2_
  have X4 := n3_
  have X5 := n4_
  have X6 := n5_
  have X7 := n6_
  clear n0_ n1_ n2_ n3_ n4_ n5_ n6_
  clear HB
  have HB := hb_
  clear hb_
  clear hb
  go_wp2_with fail
  have hc_ := laws_heldIntS.calls K8 A4_ c4_ rm5 1 m5 w15 (Kd.R_reads' X4.out).2.2 (Nat.le_trans (Nat.le_of_eq (Kd.R_reads' X4.out).1.symm) (Kd.R_reads' X4.out).2.1) H8.out
  rw [← (Kd.R_reads' X4.out).1] at hc_
  (refine (hc_).mono ?_)
  clear hc_
  rintro e w16 ⟨rfl, hd⟩
  have hb := hd.below
  clear hd
  have Z16 : Aside0 (w15.heap.size ≤ w16.heap.size) := ⟨hb.size⟩
  have n0_ := Aside0.mk (Kd.S_below X1.out hb)
  have n1_ := Aside0.mk (Kd.R_below X2.out hb)
  have n2_ := Aside0.mk (Kd.S_below X3.out hb)
  have n3_ := Aside0.mk (Kd.R_below X4.out hb)
  have n4_ := Aside0.mk (Kd.S_below X5.out hb)
  have n5_ := Aside0.mk (Kd.S_below X6.out hb)
  have n6_ := Aside0.mk (Kd.R_below X7.out hb)
  have hb_ := Aside0.mk (below_then HB.out HB.out.size hb)
  clear X1 X2 X3 X4 X5 X6 X7
  have X1 := n0_
  have X2 := n1_
  have X3 := n2_
  have X4 := n3_
  have X5 := n4_
  have X6 := n5_
  have X7 := n6_
  clear n0_ n1_ n2_ n3_ n4_ n5_ n6_
  clear HB
  have HB := hb_
  clear hb_
  clear hb
  go_wp2
  go_ret
  exact ⟨rfl, HB.out⟩

/-- THE ONE PURE STATEMENT of laws_FnExactReachedFrom. -/
def laws_FnExactReachedFrom.Pure : Prop := ∀ (l0 : List (List Int)) (a1 : Int), (l0.length ≤ 9223372036854775807 ∧ ∀ y ∈ l0, (y.length ≤ 9223372036854775807 ∧ ∀ yy ∈ y, (Lit.int .i64 yy).wf = true)) → (Lit.int .i64 a1).wf = true → laws_FnExactReachedFrom.Facts l0 a1

end Go.Proofs.Ytghblkjhecoaoaa.QFnExactReachedFrom
