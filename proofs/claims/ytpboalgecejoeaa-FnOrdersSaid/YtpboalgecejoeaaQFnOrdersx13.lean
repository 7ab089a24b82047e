-- Written by a program of this session (wip/mk.py) over the kit's print: Lean checks it.
import Derived.Test.YtpboalgecejoeaaQFnOrdersx0
import Derived.Test.YtpboalgecejoeaaQFnOrdersx5
import Derived.Test.YtpboalgecejoeaaQFnOrdersx6
import Derived.Test.YtpboalgecejoeaaQFnOrdersx11
import Derived.Test.YtpboalgecejoeaaQFnOrdersx12
namespace Go.Proofs.Ytpboalgecejoeaa.QFnOrders
open Go.Proofs.YtpboalgecejoeaaW.PrintWords.Kd renaming R_alloc → Ra, R_drewN → Rn, R_drew → Rd
open Go.Proofs.YtpboalgecejoeaaW.PrintWords renaming below_alloc → Ba, pw_below_drewN → Bn, below_drew1 → Bd, below_set → Bs, below_size → Bz, below_step → Bt, gate_dst → Gd, gate_callee → Gc, blk_alloc → Ka, blk_drewN → Kn, blk_drew → Ke, blk_below → Kb, blk_cell → Kc, blk_frozen → Kz
open Go.Proofs.YtpboalgecejoeaaW.PrintWords.Aside0 renaming mk → Am
open Go.Proofs.YtpboalgecejoeaaW.PrintWords renaming Aside0 → Ad
open Go.RowKit Go.Proofs.YtpboalgecejoeaaW.PrintWords Go.Proofs.YtpboalgecejoeaaW.PrintLast Go.Proofs.YtpboalgecejoeaaW.PrintMore
attribute [local go_sem] max2_int min2_int max_two min_two max_three min_three max_four min_four   -- for this text's walks alone
set_option linter.unusedVariables false
set_option linter.unusedSimpArgs false
def laws_sameInts.l0 : Nat → List Int → List Int → Int → Int → Option (Bool)
 | 0, _, _, _, _ => none
 | k + 1, x0, x1, x12, x13 => if x13 < x12 then (if 0 ≤ x13 then (if x13 < (x0.length : Int) then (if x13 < (x1.length : Int) then (if (rd x0 x13) = (rd x1 x13) then (laws_sameInts.l0 k x0 x1 x12 (wrap64 (x13 + 1))) else (some false)) else (none)) else (none)) else (none)) else (some true)
def laws_sameInts.f (k : Nat) (l0 : List Int) (l1 : List Int) : Option (Bool) := if (l0.length : Int) = (l1.length : Int) then (laws_sameInts.l0 k l0 l1 (l0.length : Int) 0) else (some false)
theorem laws_sameInts.mono_l : ∀ k, (∀ y0 y1 y2 y3, LeO (laws_sameInts.l0 k y0 y1 y2 y3) (laws_sameInts.l0 (k + 1) y0 y1 y2 y3))
 | 0 => fun _ _ _ _ r h => by simp [laws_sameInts.l0] at h
 | k + 1 => by
  have ih0 := laws_sameInts.mono_l k
  ·intro y0 y1 y2 y3
   unfold laws_sameInts.l0
   repeat' first
   | (with_reducible exact ih0 _ _ _ _)
   | (with_reducible exact LeO.refl _)
   | (with_reducible exact LeO.none _)
   | (with_reducible refine LeO.ite ?_ ?_)
   | (with_reducible refine LeO.bind ?_ (fun _ => ?_))
   | exact ih0 _ _ _ _
   | exact LeO.none _
   | refine LeO.ite ?_ ?_
   | refine LeO.bind ?_ (fun _ => ?_)
theorem laws_sameInts.mono : ∀ a0 a1 k, LeO (laws_sameInts.f k a0 a1) (laws_sameInts.f (k + 1) a0 a1) := by
 intro a0 a1 k
 have ih0 := laws_sameInts.mono_l k
 unfold laws_sameInts.f
 repeat' first
   | (with_reducible exact ih0 _ _ _ _)
   | (with_reducible exact LeO.refl _)
   | (with_reducible exact LeO.none _)
   | (with_reducible refine LeO.ite ?_ ?_)
   | (with_reducible refine LeO.bind ?_ (fun _ => ?_))
   | exact ih0 _ _ _ _
   | exact LeO.none _
   | refine LeO.ite ?_ ?_
   | refine LeO.bind ?_ (fun _ => ?_)
set_option maxHeartbeats 8000000 in
set_option maxRecDepth 100000 in
theorem laws_sameInts.calls (k : Nat) (A0 : Option Addr) (c0 : Nat) (l0 : List Int) (A1 : Option Addr) (c1 : Nat) (l1 : List Int) (r : Bool) (w : World) (hr0 : Kd.C (Kd.int .i64) w A0 l0.length l0) (hc0 : l0.length ≤ c0) (hr1 : Kd.C (Kd.int .i64) w A1 l1.length l1) (hc1 : l1.length ≤ c1) (h : laws_sameInts.f k l0 l1 = some r) :
  Calls Try.prog 19 #[.slice A0 l0.length c0, .slice A1 l1.length c1] w fun e w' => e = .returned (.bool r) ∧ Drawn0 w w' := by
 have HR0 := Am hr0
 have HC0 := Am hc0
 clear hr0 hc0
 have HR1 := Am hr1
 have HC1 := Am hc1
 clear hr1 hc1
 have H : (if (l0.length : Int) = (l1.length : Int) then (laws_sameInts.l0 k l0 l1 (l0.length : Int) 0) else (some false)) = some r := h
 clear h
 by_cases c3 : (l0.length : Int) = (l1.length : Int)
 ·rw [if_pos c3] at H
  have c3b0 : ((l0.length : Int) == (l1.length : Int)) = true := beq_iff_eq.mpr c3
  have c3b1 : ((l0.length : Int) != (l1.length : Int)) = false := bne_eq_false_iff_eq.mpr c3
  have c3b2 : (l0.length == l1.length) = true := by first | simpa using c3 | (simp at c3 ⊢; omega)
  clear c3
  have H' := Am H
  clear H
  go_enter Try.func19, Try.ntmps19
  go_wp2
  repeat (go_quiet (fail); try go_wp2)
  go_loopg [13] k (fun kq v13 w' => ∃ (x13_1 : Int), v13 = .int .i64 x13_1 ∧ Ad (laws_sameInts.l0 kq l0 l1 (l0.length : Int) x13_1 = some r) ∧ Ad (kq ≤ k) ∧ Drawn0 w w')
  case atStart => exact ⟨(0), (by first | rfl | (simp; done) | (simp [*]; done)), H', ⟨Nat.le_refl _⟩, by repeat (first | exact Drawn0.refl _ | apply Drawn0.step)⟩
  case round =>
   clear H'
   try clear c1
   try clear p2
   try clear c3
   try clear c3b0
   try clear c3b1
   try clear c3b2
   obtain ⟨x13_1, rfl, HA, HK1, ⟨m1, rfl⟩⟩ := hrel
   cases gk with
   | zero => exact absurd HA.out (by simp [laws_sameInts.l0])
   | succ k1 =>
    have H := HA.out
    clear HA
    simp only [laws_sameInts.l0] at H
    by_cases c4 : x13_1 < (l0.length : Int)
    ·rw [if_pos c4] at H
     have c4b0 : decide (x13_1 < (l0.length : Int)) = true := decide_eq_true c4
     clear c4
     by_cases c5 : 0 ≤ x13_1
     ·rw [if_pos c5] at H
      have c5b0 : decide (0 ≤ x13_1) = true := decide_eq_true c5
      clear c5
      by_cases c6 : x13_1 < (l0.length : Int)
      ·rw [if_pos c6] at H
       have c6b0 : decide (x13_1 < (l0.length : Int)) = true := decide_eq_true c6
       clear c6
       by_cases c7 : x13_1 < (l1.length : Int)
       ·rw [if_pos c7] at H
        have c7b0 : decide (x13_1 < (l1.length : Int)) = true := decide_eq_true c7
        clear c7
        by_cases c8 : (rd l0 x13_1) = (rd l1 x13_1)
        ·rw [if_pos c8] at H
         have c8b0 : ((rd l0 x13_1) == (rd l1 x13_1)) = true := beq_iff_eq.mpr c8
         have c8b1 : ((rd l0 x13_1) != (rd l1 x13_1)) = false := bne_eq_false_iff_eq.mpr c8
         clear c8
         have H' := Am H
         clear H
         have p332 : 0 ≤ (x13_1 : Int) := of_decide_eq_true (by assumption)
         have q332 : x13_1 < (l0.length : Int) := of_decide_eq_true (by assumption)
         obtain ⟨ad332, e332, hx332_0⟩ := Kd.at_int HR0.out x13_1 p332 q332
         cases e332
         replace p332 := eq_true p332
         replace q332 := eq_true q332
         have p333 : 0 ≤ (x13_1 : Int) := of_decide_eq_true (by assumption)
         have q333 : x13_1 < (l1.length : Int) := of_decide_eq_true (by assumption)
         obtain ⟨ad333, e333, hx333_0⟩ := Kd.at_int HR1.out x13_1 p333 q333
         cases e333
         replace p333 := eq_true p333
         replace q333 := eq_true q333
         go_wp2
         repeat (go_quiet (fail); try go_wp2)
         go_roundg k1
         case measure => have := HK1.out; omega
         case rel => exact ⟨(wrap64 (x13_1 + 1)), (by first | rfl | (simp; done) | (simp [*]; done)), H', ⟨by have := HK1.out; omega⟩, by repeat (first | exact Drawn0.refl _ | apply Drawn0.step)⟩
        ·rw [if_neg c8] at H
         have c8b0 : ((rd l0 x13_1) == (rd l1 x13_1)) = false := beq_eq_false_iff_ne.mpr c8
         have c8b1 : ((rd l0 x13_1) != (rd l1 x13_1)) = true := bne_iff_ne.mpr c8
         obtain rfl := Option.some.inj H
         have p332 : 0 ≤ (x13_1 : Int) := of_decide_eq_true (by assumption)
         have q332 : x13_1 < (l0.length : Int) := of_decide_eq_true (by assumption)
         obtain ⟨ad332, e332, hx332_0⟩ := Kd.at_int HR0.out x13_1 p332 q332
         cases e332
         replace p332 := eq_true p332
         replace q332 := eq_true q332
         have p333 : 0 ≤ (x13_1 : Int) := of_decide_eq_true (by assumption)
         have q333 : x13_1 < (l1.length : Int) := of_decide_eq_true (by assumption)
         obtain ⟨ad333, e333, hx333_0⟩ := Kd.at_int HR1.out x13_1 p333 q333
         cases e333
         replace p333 := eq_true p333
         replace q333 := eq_true q333
         go_wp2
         repeat (go_quiet (fail); try go_wp2)
         go_ret
         exact ⟨by first | rfl | (simp; done) | (simp [*]; done), by repeat (first | exact Drawn0.refl _ | apply Drawn0.step)⟩
       ·rw [if_neg c7] at H
        exact absurd H (by simp)
      ·rw [if_neg c6] at H
       exact absurd H (by simp)
     ·rw [if_neg c5] at H
      exact absurd H (by simp)
    ·rw [if_neg c4] at H
     have c4b0 : decide (x13_1 < (l0.length : Int)) = false := decide_eq_false c4
     clear c4
     obtain rfl := Option.some.inj H
     go_wp2
     repeat (go_quiet (fail); try go_wp2)
     go_ret
     exact ⟨by first | rfl | (simp; done) | (simp [*]; done), by repeat (first | exact Drawn0.refl _ | apply Drawn0.step)⟩
 ·rw [if_neg c3] at H
  have c3b0 : ((l0.length : Int) == (l1.length : Int)) = false := beq_eq_false_iff_ne.mpr c3
  have c3b1 : ((l0.length : Int) != (l1.length : Int)) = true := bne_iff_ne.mpr c3
  have c3b2 : (l0.length == l1.length) = false := by first | simpa using c3 | (simp at c3 ⊢; omega)
  obtain rfl := Option.some.inj H
  go_enter Try.func19, Try.ntmps19
  go_wp2
  repeat (go_quiet (fail); try go_wp2)
  go_ret
  exact ⟨by first | rfl | (simp; done) | (simp [*]; done), by repeat (first | exact Drawn0.refl _ | apply Drawn0.step)⟩
def spec_DrawIsOrder.sw (o : List Int) (p : Int) : List Int := (o.set p.toNat (rd o (wrap64 (p + 1)))).set (wrap64 (p + 1)).toNat (rd o p)
def spec_DrawIsOrder.f (k : Nat) (l0 : List Int) : Option (List (List Int) × List Int × List Int) := (spec_l1Cur_graph.f k l0 0 0).bind fun t => (spec_l1Cur_keys.f k l0 t.2.1 t.2.2 (t.1.length : Int)).bind fun q => (spec_OrderOf.f k t.1 q.1).bind fun o => if o.2 = true then (if (o.1.length : Int) > 1 then (spec_l1Cur_one.f l0 q.2.1 q.2.2 2).bind fun b => if b.1 = true then (spec_l1Cur_pick.f l0 b.2.1 b.2.2 (wrap64 ((o.1.length : Int) - 1))).bind fun p => if 0 ≤ p.1 ∧ p.1 < (o.1.length : Int) ∧ 0 ≤ wrap64 (p.1 + 1) ∧ wrap64 (p.1 + 1) < (o.1.length : Int) then some (t.1, q.1, spec_DrawIsOrder.sw o.1 p.1) else none else some (t.1, q.1, o.1) else some (t.1, q.1, o.1)) else some (t.1, q.1, o.1)
theorem spec_DrawIsOrder.mono : ∀ l0 k, LeO (spec_DrawIsOrder.f k l0) (spec_DrawIsOrder.f (k + 1) l0) := by
 intro l0 k
 unfold spec_DrawIsOrder.f
 exact LeO.bind (spec_l1Cur_graph.mono l0 0 0 k) (fun _ => LeO.bind (spec_l1Cur_keys.mono _ _ _ _ k) (fun _ => LeO.bind (spec_OrderOf.mono _ _ k) (fun _ => LeO.refl _)))
set_option maxHeartbeats 8000000 in
set_option maxRecDepth 100000 in
theorem spec_DrawIsOrder.calls (k : Nat) (A0 : Option Addr) (c0 : Nat) (l0 : List Int) (r1 : List (List Int)) (r2 r3 : List Int) (w : World) (hr0 : Kd.C (Kd.int .u8) w A0 l0.length l0) (hc0 : l0.length ≤ c0) (h : spec_DrawIsOrder.f k l0 = some (r1, r2, r3)) :
  Calls Try.prog 20 #[.slice A0 l0.length c0] w fun e w' => ∃ v0_ v1_ v2_ : Value, e = .returned (.tuple #[v0_, v1_, v2_]) ∧ Kd.S (Kd.slice 3 (Kd.int .i64)) 23 w' w.heap.size (fun _ => True) v0_ r1 ∧ Kd.R (Kd.int .i64) 3 w' w.heap.size (fun _ => True) v1_ r2 ∧ Kd.R (Kd.int .i64) 3 w' w.heap.size (fun _ => True) v2_ r3 ∧ Below w.heap.size w w' := by
 unfold spec_DrawIsOrder.f at h
 obtain ⟨⟨t1, a1, s1⟩, hg, h⟩ := Option.bind_eq_some_iff.1 h
 obtain ⟨⟨q1, a2, s2⟩, hq, h⟩ := Option.bind_eq_some_iff.1 h
 obtain ⟨⟨o1, ok⟩, ho, h⟩ := Option.bind_eq_some_iff.1 h
 try dsimp only at hq ho h
 have HG := Am hg
 have HQ := Am hq
 have HOO := Am ho
 have HH := Am h
 clear hg hq ho h
 have HR := Am hr0
 clear hr0 hc0
 go_enter Try.func20, Try.ntmps20
 go_upto_region 2 with (fail)
 refine letC (fun W_ => Below w.heap.size w W_ ∧ W_.heap[w.heap.size]? = some (.cells #[.slice A0 l0.length c0, .int .i64 0, .int .u64 0] 94 (0, 0))) ⟨Ba (Below.refl _ _) _, blk_new w (.cells #[.slice A0 l0.length c0, .int .i64 0, .int .u64 0] 94)⟩ ?_
 rintro W0 ⟨hb, hx⟩
 have HB0 := Am hb
 have HI0 : Ad (IsS94 w W0 w.heap.size l0 0 0) := ⟨⟨A0, c0, hx, Nat.le_refl _, HR.out⟩⟩
 clear hb hx
 generalize w.heap.size = g at HI0
 go_wp2_with fail
 refine (spec_l1Cur_graph.calls k g l0 0 0 t1 a1 s1 w W0 HI0.out HB0.out HG.out).mono ?_
 rintro e W1 ⟨v, rfl, hS, hI, hB, hK⟩
 have HS1 := Am (Kd.S_lower hS HB0.out.size)
 have HI1 := Am hI
 have HB1 := Am hB
 clear hS hI hB hK HI0 HB0
 obtain ⟨A5, c5, e5⟩ := Kd.S_slice HS1.out
 subst e5
 go_wp2_with fail
 refine (spec_l1Cur_keys.calls k g l0 a1 s1 (t1.length : Int) q1 a2 s2 w W1 HI1.out HB1.out HQ.out).mono ?_
 rintro e W2 ⟨v, rfl, hR, hI, hB, hK⟩
 have HY2 := Am (Kd.R_lower hR HB1.out.size)
 clear hR
 obtain ⟨A6, c6, e6⟩ := Kd.R_slice HY2.out
 subst e6
 obtain ⟨_, _, hc_, _, _⟩ := HI1.out
 have HS2 := Am (Kd.S_mono (Kd.S_keep (Kd.S_types HS1.out hc_ (by decide)) hK (fun k_ hk => hk.2)) (fun _ _ => trivial))
 have HI2 := Am hI
 have HB2 := Am hB
 clear hI hB hK hc_ HI1 HB1 HS1
 go_wp2_with fail
 refine (spec_OrderOf.calls k A5 c5 t1 A6 c6 q1 o1 ok W2 (Kd.S_reads' HS2.out).2.2 (Kd.S_reads' HS2.out).2.1 (Kd.R_reads' HY2.out).2.2 (Kd.R_reads' HY2.out).2.1 HOO.out).mono ?_
 rintro e W3 ⟨v, rfl, hR, hb⟩
 obtain ⟨L, hL⟩ : ∃ L, L = W2.heap.size := ⟨_, rfl⟩
 have HS3 : Ad (Kd.S (Kd.slice 3 (Kd.int .i64)) 23 W3 w.heap.size (fun k_ => k_ < L) (.slice A5 t1.length c5) t1) := ⟨Kd.S_below (Kd.S_mono (Kd.S_bound HS2.out) (fun k_ hk_ => by have h1_ := hk_.2.2.1; omega)) hb⟩
 have HY3 : Ad (Kd.R (Kd.int .i64) 3 W3 w.heap.size (fun k_ => k_ < L) (.slice A6 q1.length c6) q1) := ⟨Kd.R_below (Kd.R_mono (Kd.R_bound HY2.out) (fun k_ hk_ => by have h1_ := hk_.2.2.1; omega)) hb⟩
 have HO3 : Ad (Kd.R (Kd.int .i64) 3 W3 w.heap.size (fun k_ => L ≤ k_) v o1) := ⟨Kd.R_lower (Kd.R_mono (Kd.R_bound hR) (fun k_ hk_ => by have h1_ := hk_.2.1; omega)) HB2.out.size⟩
 have HI3 := Am (IsS94.below HI2.out hb)
 have HB3 := Am (below_then HB2.out HB2.out.size hb)
 obtain ⟨A7, c7, e7⟩ := Kd.R_slice HO3.out
 subst e7
 clear hR hb hL HS2 HY2 HI2 HB2 HG HQ HOO
 cases ok with
 | false =>
  have h := HH.out
  rw [if_neg (by simp)] at h
  simp only [Option.some.injEq, Prod.mk.injEq] at h
  obtain ⟨rfl, rfl, rfl⟩ := h
  go_wp2
  all_goals (go_ret3; exact ⟨_, _, _, rfl, Kd.S_mono HS3.out (fun _ _ => trivial), Kd.R_mono HY3.out (fun _ _ => trivial), Kd.R_mono HO3.out (fun _ _ => trivial), HB3.out⟩)
 | true =>
  have h := HH.out
  rw [if_pos rfl] at h
  clear HH
  by_cases hl1 : (o1.length : Int) > 1
  case neg =>
   rw [if_neg hl1] at h
   have hl2 : ¬ (1 : Int) < (o1.length : Int) := hl1
   simp only [Option.some.injEq, Prod.mk.injEq] at h
   obtain ⟨rfl, rfl, rfl⟩ := h
   go_wp2
   all_goals (go_ret3; exact ⟨_, _, _, rfl, Kd.S_mono HS3.out (fun _ _ => trivial), Kd.R_mono HY3.out (fun _ _ => trivial), Kd.R_mono HO3.out (fun _ _ => trivial), HB3.out⟩)
  have hl2 : (1 : Int) < (o1.length : Int) := hl1
  rw [if_pos hl1] at h
  obtain ⟨⟨b, a3, s3⟩, hb1, h⟩ := Option.bind_eq_some_iff.1 h
  try dsimp only at h
  have HON := Am hb1
  have HH := Am h
  clear h hb1
  go_wp2_with fail
  refine (spec_l1Cur_one.calls g l0 a2 s2 2 b a3 s3 w W3 HI3.out HB3.out HON.out).mono ?_
  rintro e W4 ⟨rfl, hI, hB, hK⟩
  obtain ⟨_, _, hc_, _, _⟩ := HI3.out
  have HS4 := Am (Kd.S_mono (Kd.S_keep (Kd.S_types HS3.out hc_ (by decide)) hK (fun k_ hk => hk.2)) (fun _ h => h.1))
  have HY4 := Am (Kd.R_mono (Kd.R_keep (IsS94.apart HI3.out HY3.out (by decide)) hK (fun _ h => h.2)) (fun _ h => h.1))
  have HO4 := Am (Kd.R_mono (Kd.R_keep (IsS94.apart HI3.out HO3.out (by decide)) hK (fun _ h => h.2)) (fun _ h => h.1))
  have HI4 := Am hI
  have HB4 := Am hB
  clear hI hB hK hc_ HI3 HB3 HS3 HY3 HO3 HON
  cases b with
  | false =>
   have h := HH.out
   rw [if_neg (by simp)] at h
   simp only [Option.some.injEq, Prod.mk.injEq] at h
   obtain ⟨rfl, rfl, rfl⟩ := h
   go_wp2
   all_goals (go_ret3; exact ⟨_, _, _, rfl, Kd.S_mono HS4.out (fun _ _ => trivial), Kd.R_mono HY4.out (fun _ _ => trivial), Kd.R_mono HO4.out (fun _ _ => trivial), HB4.out⟩)
  | true =>
   have h := HH.out
   rw [if_pos rfl] at h
   obtain ⟨⟨p1, a4, s4⟩, hp, h⟩ := Option.bind_eq_some_iff.1 h
   try dsimp only at h
   by_cases hr : 0 ≤ p1 ∧ p1 < (o1.length : Int) ∧ 0 ≤ wrap64 (p1 + 1) ∧ wrap64 (p1 + 1) < (o1.length : Int)
   case neg => rw [if_neg hr] at h; cases h
   rw [if_pos hr] at h
   obtain ⟨g0, g1, g2, g3⟩ := hr
   simp only [Option.some.injEq, Prod.mk.injEq] at h
   obtain ⟨rfl, rfl, rfl⟩ := h
   have HPK := Am hp
   clear hp HH
   go_wp2_with fail
   refine (spec_l1Cur_pick.calls g l0 a3 s3 (wrap64 ((o1.length : Int) - 1)) p1 a4 s4 w W4 HI4.out HB4.out HPK.out).mono ?_
   rintro e W5 ⟨rfl, hI, hB, hK⟩
   obtain ⟨_, _, hc_, _, _⟩ := HI4.out
   have HS5 := Am (Kd.S_mono (Kd.S_keep (Kd.S_types HS4.out hc_ (by decide)) hK (fun k_ hk => hk.2)) (fun _ h => h.1))
   have HY5 := Am (Kd.R_mono (Kd.R_keep (IsS94.apart HI4.out HY4.out (by decide)) hK (fun _ h => h.2)) (fun _ h => h.1))
   have HO5 := Am (Kd.R_mono (Kd.R_keep (IsS94.apart HI4.out HO4.out (by decide)) hK (fun _ h => h.2)) (fun _ h => h.1))
   have HB5 := Am hB
   clear hI hB hK hc_ HI4 HB4 HS4 HY4 HO4 HPK
   obtain ⟨gx, cx, ex, hgx0, hgx1, cells, hcx⟩ := Kd.R_form HO5.out (by omega)
   injection ex with ex1 ex2 ex3
   subst ex1
   subst ex3
   have HGL : Ad (L ≤ gx) := ⟨HO5.out.1 gx rfl⟩
   have HGW := Am hgx0
   clear hgx0 hgx1 hcx
   obtain ⟨hc0, hf0⟩ := Kd.R_celln (0 : Int) HO5.out p1 g0 g1
   obtain ⟨hc1, hf1⟩ := Kd.R_celln (0 : Int) HO5.out (wrap64 (p1 + 1)) g2 g3
   go_upto_region 9 with (fail)
   refine letC (fun W_ => W_ = W5.setCell ⟨gx, p1.toNat, none⟩ (.int .i64 (rd o1 (wrap64 (p1 + 1))))) (by first | rfl | simp) ?_
   rintro W6 hW6
   obtain ⟨hR6, hg6⟩ := Kd.R_putg HO5.out p1 (rd o1 (wrap64 (p1 + 1)))
   rw [← hW6] at hR6 hg6
   clear hc0 hf0 hc1 hf1 hW6
   have HO6 := Am hR6
   have HS6 := Am (Kd.S_kept HS5.out (S := fun k_ => some k_ = some gx) ⟨hg6.size, fun k_ hk_ hn_ => hg6.block k_ hk_ hn_⟩ (fun k_ h1_ h2_ => by have := HGL.out; injection h2_ with h2_; omega))
   have HY6 := Am (Kd.R_kept HY5.out (S := fun k_ => some k_ = some gx) ⟨hg6.size, fun k_ hk_ hn_ => hg6.block k_ hk_ hn_⟩ (fun k_ h1_ h2_ => by have := HGL.out; injection h2_ with h2_; omega))
   have HB6 := Am (pw_below_grown HB5.out _ HB5.out.size hg6 (fun k_ hk_ => by injection hk_ with hk_; rw [← hk_]; exact HGW.out))
   clear hR6 hg6 HS5 HY5 HB5 HO5
   obtain ⟨hc1, hf1⟩ := Kd.R_celln (0 : Int) HO6.out (wrap64 (p1 + 1)) g2 g3
   go_upto_region 10 with (fail)
   refine letC (fun W_ => W_ = W6.setCell ⟨gx, (wrap64 (p1 + 1)).toNat, none⟩ (.int .i64 (rd o1 p1))) (by first | rfl | simp) ?_
   rintro W7 hW7
   obtain ⟨hR7, hg7⟩ := Kd.R_putg HO6.out (wrap64 (p1 + 1)) (rd o1 p1)
   rw [← hW7] at hR7 hg7
   clear hc1 hf1 hW7
   have HO7 := Am hR7
   have HS7 := Am (Kd.S_kept HS6.out (S := fun k_ => some k_ = some gx) ⟨hg7.size, fun k_ hk_ hn_ => hg7.block k_ hk_ hn_⟩ (fun k_ h1_ h2_ => by have := HGL.out; injection h2_ with h2_; omega))
   have HY7 := Am (Kd.R_kept HY6.out (S := fun k_ => some k_ = some gx) ⟨hg7.size, fun k_ hk_ hn_ => hg7.block k_ hk_ hn_⟩ (fun k_ h1_ h2_ => by have := HGL.out; injection h2_ with h2_; omega))
   have HB7 := Am (pw_below_grown HB6.out _ HB6.out.size hg7 (fun k_ hk_ => by injection hk_ with hk_; rw [← hk_]; exact HGW.out))
   clear hR7 hg7 HS6 HY6 HB6 HO6
   go_wp2
   go_ret3
   exact ⟨_, _, _, rfl, Kd.S_mono HS7.out (fun _ _ => trivial), Kd.R_mono HY7.out (fun _ _ => trivial), Kd.R_mono HO7.out (fun _ _ => trivial), HB7.out⟩
def impl_ReachedFrom.f (k : Nat) (l0 : List (List Int)) (a1 : Int) : Option (List Int × Bool) := (impl_GoodGraph.f l0).bind fun t334 => (if t334 = true then ((impl_within.f a1 0 (wrap64 ((l0.length : Int) - 1))).bind fun t335 => (if t335 = true then ((impl_reached.f k l0 a1).bind fun t336 => (some (t336, true))) else (some (([] : List Int), false)))) else (some (([] : List Int), false)))
theorem impl_ReachedFrom.mono : ∀ a0 a1 k, LeO (impl_ReachedFrom.f k a0 a1) (impl_ReachedFrom.f (k + 1) a0 a1) := by
 intro a0 a1 k
 unfold impl_ReachedFrom.f
 repeat' first
   | (with_reducible exact impl_reached.mono _ _ _)
   | (with_reducible exact LeO.refl _)
   | (with_reducible exact LeO.none _)
   | (with_reducible refine LeO.ite ?_ ?_)
   | (with_reducible refine LeO.bind ?_ (fun _ => ?_))
   | exact impl_reached.mono _ _ _
   | exact LeO.none _
   | refine LeO.ite ?_ ?_
   | refine LeO.bind ?_ (fun _ => ?_)
set_option maxHeartbeats 8000000 in
set_option maxRecDepth 100000 in
theorem impl_ReachedFrom.calls (k : Nat) (A0 : Option Addr) (c0 : Nat) (l0 : List (List Int)) (a1 : Int) (r1 : List Int) (r2 : Bool) (w : World) (hr0 : Kd.C (Kd.slice 3 (Kd.int .i64)) w A0 l0.length l0) (hc0 : l0.length ≤ c0) (h : impl_ReachedFrom.f k l0 a1 = some (r1, r2)) :
  Calls Try.prog 21 #[.slice A0 l0.length c0, .int .i64 a1] w fun e w' => ∃ v0_ : Value, e = .returned (.tuple #[v0_, .bool r2]) ∧ Kd.R (Kd.int .i64) 3 w' w.heap.size (fun _ => True) v0_ r1 ∧ Below w.heap.size w w' := by
 have HR0 := Am hr0
 have HC0 := Am hc0
 clear hr0 hc0
 have HB := Am (Below.refl w.heap.size w)
 have H : ((impl_GoodGraph.f l0).bind fun t334 => (if t334 = true then ((impl_within.f a1 0 (wrap64 ((l0.length : Int) - 1))).bind fun t335 => (if t335 = true then ((impl_reached.f k l0 a1).bind fun t336 => (some (t336, true))) else (some (([] : List Int), false)))) else (some (([] : List Int), false)))) = some (r1, r2) := h
 clear h
 replace H := Option.bind_eq_some_iff.mp H
 obtain ⟨t334, A30, H⟩ := H
 replace H : (if t334 = true then ((impl_within.f a1 0 (wrap64 ((l0.length : Int) - 1))).bind fun t335 => (if t335 = true then ((impl_reached.f k l0 a1).bind fun t336 => (some (t336, true))) else (some (([] : List Int), false)))) else (some (([] : List Int), false))) = some (r1, r2) := H
 have A3 := Am A30
 clear A30
 by_cases c4 : t334 = true
 ·subst c4
  have H1 : ((impl_within.f a1 0 (wrap64 ((l0.length : Int) - 1))).bind fun t335 => (if t335 = true then ((impl_reached.f k l0 a1).bind fun t336 => (some (t336, true))) else (some (([] : List Int), false)))) = some (r1, r2) := by rw [if_pos rfl] at H; exact H
  clear H
  have H := H1
  clear H1
  replace H := Option.bind_eq_some_iff.mp H
  obtain ⟨t335, A50, H⟩ := H
  replace H : (if t335 = true then ((impl_reached.f k l0 a1).bind fun t336 => (some (t336, true))) else (some (([] : List Int), false))) = some (r1, r2) := H
  have A5 := Am A50
  clear A50
  by_cases c6 : t335 = true
  ·subst c6
   have H1 : ((impl_reached.f k l0 a1).bind fun t336 => (some (t336, true))) = some (r1, r2) := by rw [if_pos rfl] at H; exact H
   clear H
   have H := H1
   clear H1
   replace H := Option.bind_eq_some_iff.mp H
   obtain ⟨t336, A70, H⟩ := H
   replace H : (some (t336, true)) = some (r1, r2) := H
   have A7 := Am A70
   clear A70
   simp only [Option.some.injEq, Prod.mk.injEq] at H
   obtain ⟨rfl, rfl⟩ := H
   go_enter Try.func21, Try.ntmps21
   go_wp2_with (first | ((refine Gc (f := 28) rfl ?_); refine goesL_ (some 7) rfl rfl Try.func28 (by kernel_rfl) rfl #[.slice A0 l0.length c0] rfl (by first | rfl | (simp only [List.map_toArray, List.map_cons, List.map_nil]; first | done | rfl)) ?_; (with_reducible refine (impl_GoodGraph.calls _ _ l0 true _ ?side1 ?side2 A3.out).mono ?_); (case side1 => repeat (first | exact HR0.out | (with_reducible refine Kd.C_alloc ?_ _) | (with_reducible refine Kd.C_drewN ?_ _) | (with_reducible refine Kd.C_drew ?_))); (case side2 => exact HC0.out); rintro e w8 ⟨rfl, hb⟩; refine ⟨_, rfl, ?_⟩; have n0_ := Am (Bt (by repeat (first | exact HB.out | apply Ba | apply Bn | apply Bd)) hb); clear HB; have HB := n0_; clear n0_; (try clear hb); (try clear hb2); (try clear hk); (try clear hi)) | (go_at_call 68; (with_reducible refine (impl_within.calls a1 0 (wrap64 ((l0.length : Int) - 1)) true _ A5.out).mono ?_); rintro e w' ⟨rfl, ⟨nd, rfl⟩⟩) | ((refine Gc (f := 58) rfl ?_); refine goesL_ (some 19) rfl rfl Try.func58 (by kernel_rfl) rfl #[.slice A0 l0.length c0, .int .i64 a1] rfl (by first | rfl | (simp only [List.map_toArray, List.map_cons, List.map_nil]; first | done | rfl)) ?_; (with_reducible refine (impl_reached.calls k _ _ l0 a1 t336 _ ?side1 ?side2 A7.out).mono ?_); (case side1 => repeat (first | exact (Kd.C_below HR0.out (by repeat (first | exact HB.out | apply Ba | apply Bn | apply Bd))) | (with_reducible refine Kd.C_alloc ?_ _) | (with_reducible refine Kd.C_drewN ?_ _) | (with_reducible refine Kd.C_drew ?_))); (case side2 => exact HC0.out); rintro e w9 ⟨v337, rfl, ho0, hb⟩; refine ⟨_, rfl, ?_⟩; have n0_ := Am (Kd.R_lower ho0 (Bz (by repeat (first | exact HB.out | apply Ba | apply Bn | apply Bd)))); have n1_ := Am (Bt (by repeat (first | exact HB.out | apply Ba | apply Bn | apply Bd)) hb); clear HB; have HO338 := n0_; have HB := n1_; clear n0_ n1_; (try clear hb); (try clear hb2); (try clear hk); (try clear hi); (try clear ho0)))
   go_ret2
   exact ⟨_, by first | rfl | (simp [*, errW_none, errW_some] <;> rfl), by (with_reducible repeat (first | apply Ra | apply Rn | apply Rd)); exact HO338.out, by repeat (first | exact HB.out | apply Ba | apply Bn | apply Bd)⟩
  ·replace c6 := Bool.eq_false_iff.mpr c6
   subst c6
   have H1 : (some (([] : List Int), false)) = some (r1, r2) := by rw [if_neg (show ¬ (false = true) by decide)] at H; exact H
   clear H
   have H := H1
   clear H1
   simp only [Option.some.injEq, Prod.mk.injEq] at H
   obtain ⟨rfl, rfl⟩ := H
   go_enter Try.func21, Try.ntmps21
   go_wp2_with (first | ((refine Gc (f := 28) rfl ?_); refine goesL_ (some 7) rfl rfl Try.func28 (by kernel_rfl) rfl #[.slice A0 l0.length c0] rfl (by first | rfl | (simp only [List.map_toArray, List.map_cons, List.map_nil]; first | done | rfl)) ?_; (with_reducible refine (impl_GoodGraph.calls _ _ l0 true _ ?side1 ?side2 A3.out).mono ?_); (case side1 => repeat (first | exact HR0.out | (with_reducible refine Kd.C_alloc ?_ _) | (with_reducible refine Kd.C_drewN ?_ _) | (with_reducible refine Kd.C_drew ?_))); (case side2 => exact HC0.out); rintro e w10 ⟨rfl, hb⟩; refine ⟨_, rfl, ?_⟩; have n0_ := Am (Bt (by repeat (first | exact HB.out | apply Ba | apply Bn | apply Bd)) hb); clear HB; have HB := n0_; clear n0_; (try clear hb); (try clear hb2); (try clear hk); (try clear hi)) | (go_at_call 68; (with_reducible refine (impl_within.calls a1 0 (wrap64 ((l0.length : Int) - 1)) false _ A5.out).mono ?_); rintro e w' ⟨rfl, ⟨nd, rfl⟩⟩))
   go_ret2
   exact ⟨_, by first | rfl | (simp [*, errW_none, errW_some] <;> rfl), by first | exact Kd.R_nil _ _ _ _ _ | exact Kd.N_nil _ _ _ _ _ | exact Kd.V_nil _ _ _ _ _ | exact Kd.Q_nil _ _ _ _ _ | exact Kd.S_nil _ _ _ _ _, by repeat (first | exact HB.out | apply Ba | apply Bn | apply Bd)⟩
 ·replace c4 := Bool.eq_false_iff.mpr c4
  subst c4
  have H1 : (some (([] : List Int), false)) = some (r1, r2) := by rw [if_neg (show ¬ (false = true) by decide)] at H; exact H
  clear H
  have H := H1
  clear H1
  simp only [Option.some.injEq, Prod.mk.injEq] at H
  obtain ⟨rfl, rfl⟩ := H
  go_enter Try.func21, Try.ntmps21
  go_wp2_with (first | ((refine Gc (f := 28) rfl ?_); refine goesL_ (some 7) rfl rfl Try.func28 (by kernel_rfl) rfl #[.slice A0 l0.length c0] rfl (by first | rfl | (simp only [List.map_toArray, List.map_cons, List.map_nil]; first | done | rfl)) ?_; (with_reducible refine (impl_GoodGraph.calls _ _ l0 false _ ?side1 ?side2 A3.out).mono ?_); (case side1 => repeat (first | exact HR0.out | (with_reducible refine Kd.C_alloc ?_ _) | (with_reducible refine Kd.C_drewN ?_ _) | (with_reducible refine Kd.C_drew ?_))); (case side2 => exact HC0.out); rintro e w11 ⟨rfl, hb⟩; refine ⟨_, rfl, ?_⟩; have n0_ := Am (Bt (by repeat (first | exact HB.out | apply Ba | apply Bn | apply Bd)) hb); clear HB; have HB := n0_; clear n0_; (try clear hb); (try clear hb2); (try clear hk); (try clear hi)))
  go_ret2
  exact ⟨_, by first | rfl | (simp [*, errW_none, errW_some] <;> rfl), by first | exact Kd.R_nil _ _ _ _ _ | exact Kd.N_nil _ _ _ _ _ | exact Kd.V_nil _ _ _ _ _ | exact Kd.Q_nil _ _ _ _ _ | exact Kd.S_nil _ _ _ _ _, by repeat (first | exact HB.out | apply Ba | apply Bn | apply Bd)⟩
def laws_numberOf.l0 : Nat → Int → List Int → Int → Int → Option (Int)
 | 0, _, _, _, _ => none
 | k + 1, x3, x6, x7, x8 => if x8 < x7 then (if 0 ≤ x8 then (if x8 < (x6.length : Int) then (laws_numberOf.l0 k (Int.tmod (wrap64 ((wrap64 (31 * x3)) + (wrap64 (rd x6 x8)))) 1000003) x6 x7 (wrap64 (x8 + 1))) else (none)) else (none)) else (some x3)
def laws_numberOf.f (k : Nat) (l0 : List Int) : Option (Int) := laws_numberOf.l0 k 0 l0 (l0.length : Int) 0
theorem laws_numberOf.mono_l : ∀ k, (∀ y0 y1 y2 y3, LeO (laws_numberOf.l0 k y0 y1 y2 y3) (laws_numberOf.l0 (k + 1) y0 y1 y2 y3))
 | 0 => fun _ _ _ _ r h => by simp [laws_numberOf.l0] at h
 | k + 1 => by
  have ih0 := laws_numberOf.mono_l k
  ·intro y0 y1 y2 y3
   unfold laws_numberOf.l0
   repeat' first
   | (with_reducible exact ih0 _ _ _ _)
   | (with_reducible exact LeO.refl _)
   | (with_reducible exact LeO.none _)
   | (with_reducible refine LeO.ite ?_ ?_)
   | (with_reducible refine LeO.bind ?_ (fun _ => ?_))
   | exact ih0 _ _ _ _
   | exact LeO.none _
   | refine LeO.ite ?_ ?_
   | refine LeO.bind ?_ (fun _ => ?_)
theorem laws_numberOf.mono : ∀ a0 k, LeO (laws_numberOf.f k a0) (laws_numberOf.f (k + 1) a0) := by
 intro a0 k
 have ih0 := laws_numberOf.mono_l k
 unfold laws_numberOf.f
 repeat' first
   | (with_reducible exact ih0 _ _ _ _)
   | (with_reducible exact LeO.refl _)
   | (with_reducible exact LeO.none _)
   | (with_reducible refine LeO.ite ?_ ?_)
   | (with_reducible refine LeO.bind ?_ (fun _ => ?_))
   | exact ih0 _ _ _ _
   | exact LeO.none _
   | refine LeO.ite ?_ ?_
   | refine LeO.bind ?_ (fun _ => ?_)
set_option maxHeartbeats 8000000 in
set_option maxRecDepth 100000 in
theorem laws_numberOf.calls (k : Nat) (A0 : Option Addr) (c0 : Nat) (l0 : List Int) (r : Int) (w : World) (hr0 : Kd.C (Kd.int .u8) w A0 l0.length l0) (hc0 : l0.length ≤ c0) (h : laws_numberOf.f k l0 = some r) :
  Calls Try.prog 22 #[.slice A0 l0.length c0] w fun e w' => e = .returned (.int .i64 r) ∧ Drawn0 w w' := by
 have HR0 := Am hr0
 have HC0 := Am hc0
 clear hr0 hc0
 have H : (laws_numberOf.l0 k 0 l0 (l0.length : Int) 0) = some r := h
 clear h
 have H' := Am H
 clear H
 go_enter Try.func22, Try.ntmps22
 go_wp2
 go_loopg [3, 8] k (fun kq v3 v8 w' => ∃ (x3_1 : Int) (x8_1 : Int), v3 = .int .i64 x3_1 ∧ v8 = .int .i64 x8_1 ∧ Ad (laws_numberOf.l0 kq x3_1 l0 (l0.length : Int) x8_1 = some r) ∧ Ad (kq ≤ k) ∧ Drawn0 w w')
 case atStart => exact ⟨(0), (0), (by first | rfl | (simp; done) | (simp [*]; done)), (by first | rfl | (simp; done) | (simp [*]; done)), H', ⟨Nat.le_refl _⟩, by repeat (first | exact Drawn0.refl _ | apply Drawn0.step)⟩
 case round =>
  clear H'
  obtain ⟨x3_1, x8_1, rfl, rfl, HA, HK1, ⟨m1, rfl⟩⟩ := hrel
  cases gk with
  | zero => exact absurd HA.out (by simp [laws_numberOf.l0])
  | succ k1 =>
   have H := HA.out
   clear HA
   simp only [laws_numberOf.l0] at H
   by_cases c2 : x8_1 < (l0.length : Int)
   ·rw [if_pos c2] at H
    have c2b0 : decide (x8_1 < (l0.length : Int)) = true := decide_eq_true c2
    clear c2
    by_cases c3 : 0 ≤ x8_1
    ·rw [if_pos c3] at H
     have c3b0 : decide (0 ≤ x8_1) = true := decide_eq_true c3
     clear c3
     by_cases c4 : x8_1 < (l0.length : Int)
     ·rw [if_pos c4] at H
      have c4b0 : decide (x8_1 < (l0.length : Int)) = true := decide_eq_true c4
      clear c4
      have H' := Am H
      clear H
      have p339 : 0 ≤ (x8_1 : Int) := of_decide_eq_true (by assumption)
      have q339 : x8_1 < (l0.length : Int) := of_decide_eq_true (by assumption)
      obtain ⟨ad339, e339, hx339_0⟩ := Kd.at_int HR0.out x8_1 p339 q339
      cases e339
      replace p339 := eq_true p339
      replace q339 := eq_true q339
      go_wp2
      go_roundg k1
      case measure => have := HK1.out; omega
      case rel => exact ⟨(Int.tmod (wrap64 ((wrap64 (31 * x3_1)) + (wrap64 (rd l0 x8_1)))) 1000003), (wrap64 (x8_1 + 1)), (by first | rfl | (simp; done) | (simp [*]; done)), (by first | rfl | (simp; done) | (simp [*]; done)), H', ⟨by have := HK1.out; omega⟩, by repeat (first | exact Drawn0.refl _ | apply Drawn0.step)⟩
     ·rw [if_neg c4] at H
      exact absurd H (by simp)
    ·rw [if_neg c3] at H
     exact absurd H (by simp)
   ·rw [if_neg c2] at H
    have c2b0 : decide (x8_1 < (l0.length : Int)) = false := decide_eq_false c2
    clear c2
    obtain rfl := Option.some.inj H
    go_wp2
    go_ret
    exact ⟨by first | rfl | (simp; done) | (simp [*]; done), by repeat (first | exact Drawn0.refl _ | apply Drawn0.step)⟩
theorem slices_DeleteFunc_int_int.clear {e base : Nat} {P : Nat → Prop} {gb n cap : Nat} {w0 : World} (hg : w0.heap.size ≤ gb) : ∀ (m o : Nat) (w : World) (l : List Int), Kd.R (Kd.int .i64) e w base P (.slice (some ⟨gb, 0, none⟩) n cap) l → Below w0.heap.size w0 w →
  ∃ l' : List Int, l'.length = l.length ∧ l'.take o = l.take o ∧ Kd.R (Kd.int .i64) e (w.setCells gb o (List.replicate m (.int .i64 0))) base P (.slice (some ⟨gb, 0, none⟩) n cap) l' ∧ Below w0.heap.size w0 (w.setCells gb o (List.replicate m (.int .i64 0)))
 | 0, o, w, l, h, hb => ⟨l, rfl, rfl, h, hb⟩
 | m + 1, o, w, l, h, hb => by
  have h1 := Kd.R_putn (enc := Value.int .i64) (h1 := fun _ => rfl) h (o : Int) 0
  simp only [Int.toNat_natCast] at h1
  obtain ⟨l', hl, ht, hR, hB⟩ := slices_DeleteFunc_int_int.clear hg m (o + 1) (w.setCell ⟨gb, o, none⟩ (.int .i64 0)) (l.set o 0) h1 (Bs hb hg)
  refine ⟨l', by rw [hl, List.length_set], ?_, hR, hB⟩
  have := congrArg (List.take o) ht
  rw [List.take_take, List.take_take, Nat.min_eq_left (by omega)] at this
  rw [this, List.take_set_of_le (Nat.le_refl _)]
set_option maxHeartbeats 4000000 in
set_option maxRecDepth 100000 in
theorem slices_DeleteFunc_int_int.del (g : Nat) (lb : Array Value) (p : Int → Option Bool) (P : Nat → Prop) (v : Value) (xs r : List Int) (w0 w : World)
  (eg : ∀ args w, (callFunc g args).run Try.prog w = .ok (.enter g args) w) (hB : Below w0.heap.size w0 w)
  (ho : Kd.R (Kd.int .i64) 3 w w0.heap.size P v xs)
  (hp : ∀ (W : World) (x : Int), x ∈ xs → Below w0.heap.size w0 W → ∀ b : Bool, p x = some b → Calls Try.prog g (#[.int .i64 x] ++ lb) W fun e w' => e = .returned (.bool b) ∧ Below W.heap.size W w')
  (h : Mine.delO p xs = some r) :
  Calls Try.prog 69 #[v, .func (.func g) #[] lb] w fun e w' => ∃ v0_ : Value, e = .returned v0_ ∧ Kd.R (Kd.int .i64) 3 w' w0.heap.size P v0_ r ∧ Below w0.heap.size w0 w' := by
 obtain ⟨A0, c0, rfl⟩ := Kd.R_slice ho
 obtain ⟨i, hi, hcase⟩ := Mine.delO_idx p xs r 0 (Int.le_refl 0) h
 have hmax : xs.length ≤ 9223372036854775807 := (Kd.R_reads' ho).2.2.2.1
 have HO := Am ho
 have HB := Am hB
 have HP := Am hp
 have HC := Am hcase
 have HI := Am hi
 clear ho hB hp hcase hi h
 go_enter Try.func69, Try.ntmps69
 go_wp2_with fail
 refine (slices_IndexFunc_int_int_119.anyO g lb p A0 c0 xs w i eg (Kd.R_reads' HO.out).2.2 (Kd.R_reads' HO.out).2.1 (fun W x hx bW b hb => HP.out W x hx (below_then HB.out HB.out.size bW) b hb) HI.out).mono ?_
 rintro e w1 ⟨rfl, hb1⟩
 have n0_ := Am (Kd.R_below HO.out hb1)
 have n1_ := Am (below_then HB.out HB.out.size hb1)
 clear HO HB HI hb1
 have HO := n0_
 have HB := n1_
 clear n0_ n1_
 rcases HC.out with ⟨rfl, rfl⟩ | ⟨m, rfl, hm, rest, hr1, rfl⟩
 ·clear HC HP
  go_wp2
  go_ret
  exact ⟨_, rfl, HO.out, HB.out⟩
 ·clear HC
  obtain ⟨gb, cap, hv, hbg, hgl, _⟩ := Kd.R_form HO.out (by omega)
  injection hv with hv1 hv2 hv3
  subst hv1
  subst hv3
  clear hv2 hgl
  have HG := Am hbg
  clear hbg
  have hcap : xs.length ≤ c0 := (Kd.R_reads' HO.out).2.1
  have HS := Am (show Mine.delO p (xs.drop (m + 1)) = some rest from hr1)
  clear hr1
  have hz : (0 : Int) + (m : Int) = (m : Int) := by omega
  simp only [hz]
  clear hz
  have hne : ((m : Int) == -1) = false := by rw [beq_eq_false_iff_ne]; omega
  have hw : IntKind.i64.wrap ((m : Int) + 1) = ((m + 1 : Nat) : Int) := by rw [IntWalk.i64_in _ (by omega)]; omega
  go_wp2
  clear hw hne
  go_loopg [5, 6] xs.length (fun gg s5 s6 wr => ∃ (kk jj : Nat) (acc rs : List Int), kk < jj ∧ jj ≤ xs.length ∧ xs.length - jj ≤ gg ∧ s5 = .int .i64 kk ∧ s6 = .int .i64 jj ∧ Ad (acc.length = xs.length) ∧ Ad (acc.drop jj = xs.drop jj) ∧ Ad (Mine.delO p (xs.drop jj) = some rs) ∧ Ad (xs.take m ++ rest = acc.take kk ++ rs) ∧ Ad (Kd.R (Kd.int .i64) 3 wr w0.heap.size P (.slice (some ⟨gb, 0, none⟩) xs.length c0) acc) ∧ Ad (Below w0.heap.size w0 wr))
  case atStart => exact ⟨m, m + 1, xs, rest, by omega, by omega, by omega, rfl, (by first | rfl | go_num), ⟨rfl⟩, ⟨rfl⟩, HS, ⟨rfl⟩, HO, HB⟩
  case round =>
   obtain ⟨kk, jj, acc, rs, hkj, hjn, hg, rfl, rfl, HL, HD, HS, HR, HO, HB⟩ := hrel
   by_cases hlt : jj < xs.length
   ·have hltz : (jj : Int) < (xs.length : Int) := by omega
    have hxe : Ad (acc.getD jj 0 = xs.getD jj 0) := ⟨by
     have h1 := HD.out
     rw [Mine.drop_at acc 0 jj (by rw [HL.out]; exact hlt), Mine.drop_at xs 0 jj hlt] at h1
     exact (List.cons.inj h1).1⟩
    have hde : Ad (acc.drop (jj + 1) = xs.drop (jj + 1)) := ⟨by
     have h1 := HD.out
     rw [Mine.drop_at acc 0 jj (by rw [HL.out]; exact hlt), Mine.drop_at xs 0 jj hlt] at h1
     exact (List.cons.inj h1).2⟩
    obtain ⟨ad, had, hx⟩ := Kd.at_int (Kd.R_reads' HO.out).2.2 (jj : Int) (by omega) (by rw [HL.out]; exact hltz)
    injection had with had
    subst had
    rw [add_plain, rd, Int.toNat_natCast, hxe.out] at hx
    have PS : Ad ((p (xs.getD jj 0)).bind (fun b => (Mine.delO p (xs.drop (jj + 1))).bind fun r => some (if b = true then r else xs.getD jj 0 :: r)) = some rs) := ⟨by have h1 := HS.out; rw [Mine.drop_at xs 0 jj hlt] at h1; exact h1⟩
    have hcall := HP.out wr (xs.getD jj 0) (Mine.getD_mem xs 0 jj hlt) HB.out
    clear HS HD hxe
    generalize xs.getD jj 0 = y at hx hcall PS
    cases hq : p y with
    | none => exact absurd PS.out (by rw [hq]; simp)
    | some b =>
     cases hd : Mine.delO p (xs.drop (jj + 1)) with
     | none => exact absurd PS.out (by rw [hq, hd]; simp)
     | some rs' =>
     have HS' := Am hd
     have hcall := hcall b hq
     have PG : Ad ((if b = true then rs' else y :: rs') = rs) := ⟨by have h1 := PS.out; rw [hq, hd] at h1; simpa using h1⟩
     clear PS hq hd
     have hwj : IntKind.i64.wrap ((jj : Int) + 1) = ((jj + 1 : Nat) : Int) := by rw [IntWalk.i64_in _ (by omega)]; omega
     have hwk : IntKind.i64.wrap ((kk : Int) + 1) = ((kk + 1 : Nat) : Int) := by rw [IntWalk.i64_in _ (by omega)]; omega
     have HWJ := Am hwj
     have HWK := Am hwk
     clear hwj hwk
     cases b with
     | true =>
      go_wp2_with fail
      refine hcall.mono ?_; rintro e w' ⟨rfl, hb'⟩
      have HO' := Am (Kd.R_below HO.out hb')
      have HB' := Am (below_then HB.out HB.out.size hb')
      clear hx hcall hb'
      go_wp2
      go_roundg (xs.length - (jj + 1))
      case measure => omega
      case rel => exact ⟨kk, jj + 1, acc, rs', by omega, by omega, by omega, rfl, by go_num, HL, hde, HS', ⟨HR.out.trans (by rw [show rs' = rs by simpa using PG.out])⟩, HO', HB'⟩
     | false =>
      go_wp2_with fail
      refine hcall.mono ?_; rintro e w' ⟨rfl, hb'⟩
      have HO' := Am (Kd.R_below HO.out hb')
      have HB' := Am (below_then HB.out HB.out.size hb')
      clear hx hcall hb'
      obtain ⟨c, hcl, hM, hcc, hfr⟩ := Kd.R_elem HO'.out 0 (kk : Int) (by omega) (by omega)
      have hM : c = [.int .i64 (acc.getD kk 0)] := by have h1 := hM; rw [Int.toNat_natCast] at h1; exact h1
      subst hM
      have hck := hcc 0 _ rfl
      have hfk := hfr 0
      have hck : w'.cell? (⟨gb, kk, none⟩ : Addr) = some (.int .i64 (acc.getD kk 0)) := by simpa [Kd.int, Kd.scalar] using hck
      have hfk : w'.frozen? (⟨gb, kk, none⟩ : Addr) = false := by simpa [Kd.int, Kd.scalar] using hfk
      clear hcl hcc hfr
      have hki : (kk : Int) < (xs.length : Int) := by omega
      generalize acc.getD kk 0 = y0 at hck
      go_wp2
      go_roundg (xs.length - (jj + 1))
      case measure => omega
      case rel =>
       refine ⟨kk + 1, jj + 1, acc.set kk y, rs', by omega, by omega, by omega, by go_num, by go_num, ⟨by rw [List.length_set]; exact HL.out⟩, ⟨by rw [List.drop_set_of_lt (by omega)]; exact hde.out⟩, HS', ⟨?_⟩, ⟨?_⟩, ⟨Bs HB'.out HG.out⟩⟩
       ·have h1 := HR.out
        have h2 : y :: rs' = rs := by simpa using PG.out
        rw [h1, ← h2, List.take_add_one, List.take_set_of_le (Nat.le_refl _)]
        have : (acc.set kk y)[kk]? = some y := List.getElem?_set_self (by rw [HL.out]; omega)
        rw [this]
        simp
       ·have h1 := Kd.R_putn (enc := Value.int .i64) (h1 := fun _ => rfl) HO'.out (kk : Int) y
        rw [Int.toNat_natCast] at h1
        exact h1
   ·obtain rfl : jj = xs.length := by omega
    have PR : Ad (xs.take m ++ rest = acc.take kk) := ⟨by
     have h1 := HS.out
     rw [List.drop_eq_nil_of_le (Nat.le_refl _)] at h1
     have h2 : ([] : List Int) = rs := Option.some.inj h1
     rw [HR.out, ← h2, List.append_nil]⟩
    have hltz : ¬ (xs.length : Int) < (xs.length : Int) := by omega
    have hcell : ∀ j, j < xs.length - kk → (wr.cell? (⟨gb, kk + j, none⟩ : Addr)).isSome = true := fun j hj => by
     obtain ⟨ad, had, hx⟩ := Kd.at_int (Kd.R_reads' HO.out).2.2 ((kk + j : Nat) : Int) (by omega) (by rw [HL.out]; omega)
     injection had with had
     subst had
     rw [add_plain, Int.toNat_natCast] at hx
     rw [hx]; rfl
    have hfro : ∀ j, j < xs.length - kk → wr.frozen? (⟨gb, kk + j, none⟩ : Addr) = false := fun j hj => by
     obtain ⟨_, _, _, _, hfr⟩ := Kd.R_elem HO.out 0 ((kk + j : Nat) : Int) (by omega) (by omega)
     have h1 := hfr 0
     rw [Int.toNat_natCast] at h1
     simpa [Kd.int, Kd.scalar] using h1
    have hcl : ∀ ty, (Builtin.clear_ #[23] ty #[.slice (some ⟨gb, kk, none⟩) (xs.length - kk) (c0 - kk)]).run Try.prog wr = .ok (.tuple #[]) (wr.setCells gb kk (List.replicate (xs.length - kk) (.int .i64 0))) := fun ty => Lib.run_clear_slice wr 23 3 ty (.int .i64 0) Try.underlying23 (fun w => by rfl) rfl rfl gb kk (xs.length - kk) (c0 - kk) (by omega) hcell hfro
    clear hcell hfro
    have hkn : (kk : Int) ≤ (xs.length : Int) := by omega
    have hkc : ¬ c0 = kk := by omega
    have hk0 : (0 : Int) ≤ (kk : Int) := by omega
    obtain ⟨l', hl', ht', hR', hB'⟩ := slices_DeleteFunc_int_int.clear HG.out (xs.length - kk) kk wr acc HO.out HB.out
    have HR' := Am hR'
    have HB' := Am hB'
    have HT' := Am ht'
    have HL' := Am hl'
    clear hR' hB' ht' hl'
    go_wp2
    go_ret
    refine ⟨_, rfl, ?_, HB'.out⟩
    rw [PR.out, ← HT'.out]
    exact Kd.R_take HR'.out (by rw [HL'.out, HL.out]; omega)
def slices_Clone_int_int.f (l0 : List Int) : Option (List Int) := if l0.length < 17592186044416 then some l0 else none
set_option maxHeartbeats 8000000 in
set_option maxRecDepth 100000 in
theorem slices_Clone_int_int.calls (A0 : Option Addr) (c0 : Nat) (l0 : List Int) (r : List Int) (w : World) (hr0 : Kd.C (Kd.int .i64) w A0 l0.length l0) (hc0 : l0.length ≤ c0) (h : slices_Clone_int_int.f l0 = some r) :
  Calls Try.prog 70 #[.slice A0 l0.length c0] w fun e w' => ∃ v0_ : Value, e = .returned (v0_) ∧ Kd.R (Kd.int .i64) 3 w' w.heap.size (fun _ => True) v0_ r ∧ Below w.heap.size w w' := by
 unfold slices_Clone_int_int.f at h
 by_cases c2 : l0.length < 17592186044416
 ·rw [if_pos c2] at h
  obtain rfl := Option.some.inj h
  clear h
  cases A0 with
  | none =>
   have hl : l0.length = 0 := by
    rcases Nat.eq_zero_or_pos l0.length with h | h
    ·exact h
    ·obtain ⟨ad, he, _⟩ := hr0.2.2 h
     cases he
   have hl : l0 = [] := List.eq_nil_of_length_eq_zero hl
   subst hl
   go_enter Try.func70, Try.ntmps70
   go_wp2_with (first | ((refine Gd (N := 4) rfl ?_); refine Kd.event_run (w1 := w) (v := .bool true) rfl ?hr ?_; (case hr => rfl)))
   go_ret
   exact ⟨_, rfl, Kd.R_nil _ _ _ _ _, Below.refl _ _⟩
  | some ad =>
   have HR0 := Am hr0
   have HC0 := Am hc0
   clear hr0 hc0
   have HB := Am (Below.refl w.heap.size w)
   obtain ⟨y1, hy1⟩ : ∃ y_ : List Int, y_ = (([] : List Int)) := ⟨_, rfl⟩
   have LM := Am (show y1.length + l0.length < 17592186044416 by rw [hy1]; simpa using c2)
   obtain ⟨y2, hy2⟩ : ∃ y_ : List Int, y_ = (y1 ++ l0) := ⟨_, rfl⟩
   have E2 := Am (show y2 = l0 by rw [hy2, hy1, List.nil_append])
   have Ny1 := Am hy1
   have Ny2 := Am hy2
   clear hy1 hy2 c2
   go_enter Try.func70, Try.ntmps70
   go_wp2_with (first | ((refine Gd (N := 4) rfl ?_); refine Kd.event_run (w1 := w) (v := .bool false) rfl ?hr ?_; (case hr => rfl)) | ((refine Gd (N := 5) rfl ?_); refine Kd.R_lit (Kd.int .i64) _ 3 ?hg (N := 5) ?hd (xs := ([] : List Int)) (inner := []) (ok := fun _ => True) (okp := fun _ => True) ?hr ?hp (fun _ hk => hk) trivial (Below.refl _ _) (Nat.le_refl _) (by simp) ?_; (case hd | hg => rfl); (case hr => first | (go_simp; done) | (go_simp; rfl)); (case hp => exact (Reps.none _ _)); intro v121 w3 ho4 hb hg_ hnew_; clear hg_ hnew_; (first | rw [← Ny1.out] at ho4 | (simp only [Int.reduceToNat] at ho4; rw [← Ny1.out] at ho4)); have n0_ := Am (Kd.R_lower ho4 (Bz (by repeat (first | exact HB.out | apply Ba | apply Bn | apply Bd)))); have n1_ := Am (Bt (by repeat (first | exact HB.out | apply Ba | apply Bn | apply Bd)) hb); clear HB; have HO1 := n0_; have HB := n1_; clear n0_ n1_; clear hb ho4) | ((with_reducible refine gate_builtin (b := .append) (xs := #[.tmp 5, .tmp 6]) rfl ?_); at_builtin; refine Kd.R_append_rows (Kd.int .i64) (w0 := w) w.heap.size rfl (.tmp 5) (.tmp 6) 23 3 (.int .i64 0) 8 rfl Try.underlying23 info3 rfl (by decide) (by omega) v121 y1 l0 _ _ _ (fun _ => True) (fun _ => False) rfl rfl ?aO ?aR (fun _ _ h => h) (fun _ h => h.elim) ?aF ?aB ?aS ?aL ?_; (case aR => repeat (first | exact (Kd.C_below HR0.out HB.out) | (with_reducible refine Kd.C_alloc ?_ _) | (with_reducible refine Kd.C_drewN ?_ _) | (with_reducible refine Kd.C_drew ?_))); (case aB => exact (by repeat (first | exact HB.out | apply Ba | apply Bn | apply Bd))); (case aF => exact (fun _ _ => trivial)); (case aO => exact (by (with_reducible repeat (first | apply Ra | apply Rn | apply Rd)); exact HO1.out)); (case aS => exact (Bz (by repeat (first | exact HB.out | apply Ba | apply Bn | apply Bd)))); (case aL => have := LM.out; omega); intro v124 w5 ho hb hg hat; rw [← Ny2.out] at ho; have n0_ := Am (hb); have n1_ := Am (ho); clear HB; clear HO1; have HB := n0_; have HO2 := n1_; clear n0_ n1_; clear ho hb hg hat))
   go_ret
   exact ⟨_, by first | rfl | (simp [*, errW_none, errW_some] <;> rfl), by rw [← E2.out]; (with_reducible repeat (first | apply Ra | apply Rn | apply Rd)); exact HO2.out, (by repeat (first | exact HB.out | apply Ba | apply Bn | apply Bd))⟩
 ·rw [if_neg c2] at h
  exact absurd h (by simp)
def impl_ClosedIn_1_1.f (k : Nat) (a0 : Int) (l1_0 : List Int) : Option (Bool) := (slices_Contains_int_int.f k l1_0 a0).bind fun t341 => (some (!t341))
theorem impl_ClosedIn_1_1.mono : ∀ a0 a1 k, LeO (impl_ClosedIn_1_1.f k a0 a1) (impl_ClosedIn_1_1.f (k + 1) a0 a1) := by
 intro a0 a1 k
 unfold impl_ClosedIn_1_1.f
 repeat' first
   | (with_reducible exact slices_Contains_int_int.mono _ _ _)
   | (with_reducible exact LeO.refl _)
   | (with_reducible exact LeO.none _)
   | (with_reducible refine LeO.ite ?_ ?_)
   | (with_reducible refine LeO.bind ?_ (fun _ => ?_))
   | exact slices_Contains_int_int.mono _ _ _
   | exact LeO.none _
   | refine LeO.ite ?_ ?_
   | refine LeO.bind ?_ (fun _ => ?_)
set_option maxHeartbeats 8000000 in
set_option maxRecDepth 100000 in
theorem impl_ClosedIn_1_1.calls (k : Nat) (a0 : Int) (gq1 : Nat) (A1_0 : Option Addr) (c1_0 : Nat) (l1_0 : List Int) (r : Bool) (w : World) (hr1_0 : Kd.C (Kd.int .i64) w A1_0 l1_0.length l1_0) (hc1_0 : l1_0.length ≤ c1_0) (hb1 : w.heap[gq1]? = some (.cells #[.slice A1_0 l1_0.length c1_0] 23 (0, 0))) (h : impl_ClosedIn_1_1.f k a0 l1_0 = some r) :
  Calls Try.prog 73 #[.int .i64 a0, .pointer (some ⟨gq1, 0, none⟩)] w fun e w' => e = .returned (.bool r) ∧ Drawn0 w w' := by
 have HR1_0 := Am hr1_0
 have HC1_0 := Am hc1_0
 clear hr1_0 hc1_0
 have BK340 := Am hb1
 clear hb1
 have H : ((slices_Contains_int_int.f k l1_0 a0).bind fun t341 => (some (!t341))) = some r := h
 clear h
 replace H := Option.bind_eq_some_iff.mp H
 obtain ⟨t341, A30, H⟩ := H
 replace H : (some (!t341)) = some r := H
 have A3 := Am A30
 clear A30
 obtain rfl := Option.some.inj H
 have hcz4_0 : w.cell? ⟨gq1, 0, none⟩ = some (.slice A1_0 l1_0.length c1_0) := (Kc BK340.out 0).trans rfl
 have hfz4_0 := Kz BK340.out 0
 go_enter Try.func73, Try.ntmps73
 go_wp2_with (first | ((refine Gc (f := 57) rfl ?_); refine goesL_ (some 6) rfl rfl Try.func57 (by kernel_rfl) rfl #[.slice A1_0 l1_0.length c1_0, .int .i64 a0] rfl (by first | rfl | (simp only [List.map_toArray, List.map_cons, List.map_nil]; first | done | rfl)) ?_; (with_reducible refine (slices_Contains_int_int.calls k _ _ l1_0 a0 t341 _ ?side1 ?side2 A3.out).mono ?_); (case side1 => repeat (first | exact HR1_0.out | (with_reducible refine Kd.C_alloc ?_ _) | (with_reducible refine Kd.C_drewN ?_ _) | (with_reducible refine Kd.C_drew ?_))); (case side2 => exact HC1_0.out); rintro e w' ⟨rfl, ⟨nd, rfl⟩⟩; refine ⟨_, rfl, ?_⟩))
 go_ret
 exact ⟨by first | rfl | (simp; done) | (simp [*]; done), by repeat (first | exact Drawn0.refl _ | apply Drawn0.step)⟩
def impl_ClosedIn_1_1_in_c.f (k : Nat) (l0 : List Int) (ll0_0 : List Int) : Option Bool := Mine.anyO (fun x : Int => impl_ClosedIn_1_1.f k x ll0_0) l0
theorem impl_ClosedIn_1_1_in_c.mono : ∀ a0 b0 k, LeO (impl_ClosedIn_1_1_in_c.f k a0 b0) (impl_ClosedIn_1_1_in_c.f (k + 1) a0 b0) := by
 intro a0 b0 k
 unfold impl_ClosedIn_1_1_in_c.f
 exact Mine.anyO_mono (fun (x : Int) b_ hb_ => impl_ClosedIn_1_1.mono x b0 k b_ hb_) a0
set_option maxHeartbeats 2000000 in
theorem impl_ClosedIn_1_1_in_c.calls (k : Nat) (A0 : Option Addr) (c0 : Nat) (l0 : List Int) (gq0 : Nat) (AA0_0 : Option Addr) (cc0_0 : Nat) (ll0_0 : List Int) (r : Bool) (w : World) (hr0 : Kd.C (Kd.int .i64) w A0 l0.length l0) (hc0 : l0.length ≤ c0) (hr10_0 : Kd.C (Kd.int .i64) w AA0_0 ll0_0.length ll0_0) (hc10_0 : ll0_0.length ≤ cc0_0) (hb0 : w.heap[gq0]? = some (.cells #[.slice AA0_0 ll0_0.length cc0_0] 23 (0, 0))) (h : impl_ClosedIn_1_1_in_c.f k l0 ll0_0 = some r) :
  Calls Try.prog 72 #[.slice A0 l0.length c0, .func (.func 73) #[] #[.pointer (some ⟨gq0, 0, none⟩)]] w fun e w' => e = .returned (.bool r) ∧ Below w.heap.size w w' :=
 slices_ContainsFunc_int_int_72.anyO 73 #[.pointer (some ⟨gq0, 0, none⟩)] (fun x : Int => impl_ClosedIn_1_1.f k x ll0_0) A0 c0 l0 w r (fun args w => enters_ Try.func73 (by kernel_rfl) rfl args w) hr0 hc0
  (fun W x hx bW b hb_ => (impl_ClosedIn_1_1.calls k x gq0 AA0_0 cc0_0 ll0_0 b W (Kd.C_below hr10_0 bW) hc10_0 (Kb hb0 bW) hb_).mono (fun e w' hh => ⟨hh.1, hh.2.below⟩)) h
def impl_ClosedIn_1.f (k : Nat) (a0 : Int) (l1_0 : List (List Int)) (l2_0 : List Int) : Option (Bool) := (impl_reached.f k l1_0 a0).bind fun t344 => ((impl_ClosedIn_1_1_in_c.f k t344 l2_0).bind fun t347 => (some t347))
theorem impl_ClosedIn_1.mono : ∀ a0 a1 a2 k, LeO (impl_ClosedIn_1.f k a0 a1 a2) (impl_ClosedIn_1.f (k + 1) a0 a1 a2) := by
 intro a0 a1 a2 k
 unfold impl_ClosedIn_1.f
 repeat' first
   | (with_reducible exact impl_ClosedIn_1_1_in_c.mono _ _ _)
   | (with_reducible exact impl_reached.mono _ _ _)
   | (with_reducible exact LeO.refl _)
   | (with_reducible exact LeO.none _)
   | (with_reducible refine LeO.ite ?_ ?_)
   | (with_reducible refine LeO.bind ?_ (fun _ => ?_))
   | exact impl_ClosedIn_1_1_in_c.mono _ _ _
   | exact impl_reached.mono _ _ _
   | exact LeO.none _
   | refine LeO.ite ?_ ?_
   | refine LeO.bind ?_ (fun _ => ?_)
set_option maxHeartbeats 8000000 in
set_option maxRecDepth 100000 in
theorem impl_ClosedIn_1.calls (k : Nat) (a0 : Int) (gq1 : Nat) (A1_0 : Option Addr) (c1_0 : Nat) (l1_0 : List (List Int)) (gq2 : Nat) (A2_0 : Option Addr) (c2_0 : Nat) (l2_0 : List Int) (r : Bool) (w : World) (hr1_0 : Kd.C (Kd.slice 3 (Kd.int .i64)) w A1_0 l1_0.length l1_0) (hc1_0 : l1_0.length ≤ c1_0) (hr2_0 : Kd.C (Kd.int .i64) w A2_0 l2_0.length l2_0) (hc2_0 : l2_0.length ≤ c2_0) (hb1 : w.heap[gq1]? = some (.cells #[.slice A1_0 l1_0.length c1_0] 22 (0, 0))) (hb2 : w.heap[gq2]? = some (.cells #[.slice A2_0 l2_0.length c2_0] 23 (0, 0))) (h : impl_ClosedIn_1.f k a0 l1_0 l2_0 = some r) :
  Calls Try.prog 71 #[.int .i64 a0, .pointer (some ⟨gq1, 0, none⟩), .pointer (some ⟨gq2, 0, none⟩)] w fun e w' => e = .returned (.bool r) ∧ Below w.heap.size w w' := by
 have HR1_0 := Am hr1_0
 have HC1_0 := Am hc1_0
 clear hr1_0 hc1_0
 have HR2_0 := Am hr2_0
 have HC2_0 := Am hc2_0
 clear hr2_0 hc2_0
 have BK342 := Am hb1
 clear hb1
 have BK343 := Am hb2
 clear hb2
 have NB342_343 := Am (show gq1 ≠ gq2 from fun e_ => by have h_ := BK342.out; rw [e_, BK343.out] at h_; injection h_ with h_; injection h_ with _ h2_; exact absurd h2_ (by decide))
 have NB343_342 := Am (show gq2 ≠ gq1 from fun e_ => by have h_ := BK343.out; rw [e_, BK342.out] at h_; injection h_ with h_; injection h_ with _ h2_; exact absurd h2_ (by decide))
 have HB := Am (Below.refl w.heap.size w)
 have H : ((impl_reached.f k l1_0 a0).bind fun t344 => ((impl_ClosedIn_1_1_in_c.f k t344 l2_0).bind fun t347 => (some t347))) = some r := h
 clear h
 replace H := Option.bind_eq_some_iff.mp H
 obtain ⟨t344, A40, H⟩ := H
 replace H : ((impl_ClosedIn_1_1_in_c.f k t344 l2_0).bind fun t347 => (some t347)) = some r := H
 have A4 := Am A40
 clear A40
 replace H := Option.bind_eq_some_iff.mp H
 obtain ⟨t347, A50, H⟩ := H
 replace H : (some t347) = some r := H
 have A5 := Am A50
 clear A50
 obtain rfl := Option.some.inj H
 have hnb6 := NB342_343.out
 have hnc6 := NB343_342.out
 have hcz7_0 : w.cell? ⟨gq1, 0, none⟩ = some (.slice A1_0 l1_0.length c1_0) := (Kc BK342.out 0).trans rfl
 have hfz7_0 := Kz BK342.out 0
 go_enter Try.func71, Try.ntmps71
 go_wp2_with (first | ((refine Gc (f := 58) rfl ?_); refine goesL_ (some 7) rfl rfl Try.func58 (by kernel_rfl) rfl #[.slice A1_0 l1_0.length c1_0, .int .i64 a0] rfl (by first | rfl | (simp only [List.map_toArray, List.map_cons, List.map_nil]; first | done | rfl)) ?_; (with_reducible refine (impl_reached.calls k _ _ l1_0 a0 t344 _ ?side1 ?side2 A4.out).mono ?_); (case side1 => repeat (first | exact HR1_0.out | (with_reducible refine Kd.C_alloc ?_ _) | (with_reducible refine Kd.C_drewN ?_ _) | (with_reducible refine Kd.C_drew ?_))); (case side2 => exact HC1_0.out); rintro e w8 ⟨v345, rfl, ho0, hb⟩; refine ⟨_, rfl, ?_⟩; have n0_ := Am (Kd.R_lower ho0 (Bz (by repeat (first | (with_reducible first | exact HB.out | apply Ba | apply Bn | apply Bd | refine Bs ?_ GE342.out | refine Bs ?_ GE343.out) | exact HB.out)))); have n1_ := Am (Kb (g := gq1) (o := .cells #[.slice A1_0 l1_0.length c1_0] 22 (0, 0)) (by (with_reducible repeat (first | refine Kn ?_ _ | refine Ke ?_ | refine Ka ?_ _)); exact BK342.out) hb); have n2_ := Am (Kb (g := gq2) (o := .cells #[.slice A2_0 l2_0.length c2_0] 23 (0, 0)) (by (with_reducible repeat (first | refine Kn ?_ _ | refine Ke ?_ | refine Ka ?_ _)); exact BK343.out) hb); have n3_ := Am (Bt (by repeat (first | (with_reducible first | exact HB.out | apply Ba | apply Bn | apply Bd | refine Bs ?_ GE342.out | refine Bs ?_ GE343.out) | exact HB.out)) hb); clear BK342; clear BK343; clear HB; have HO346 := n0_; have BK342 := n1_; have BK343 := n2_; have HB := n3_; clear n0_ n1_ n2_ n3_; (try clear hb); (try clear hb2); (try clear hk); (try clear hi); (try clear ho0); obtain ⟨Ao9, co9, eo9⟩ := Kd.R_slice HO346.out; subst eo9) | ((refine Gc (f := 72) rfl ?_); refine goesL_ (some 9) rfl rfl Try.func72 (by kernel_rfl) rfl #[.slice Ao9 t344.length co9, .func (.func 73) #[] #[.pointer (some ⟨gq2, 0, none⟩)]] rfl (by first | rfl | (simp only [List.map_toArray, List.map_cons, List.map_nil]; first | done | rfl)) ?_; (with_reducible refine (impl_ClosedIn_1_1_in_c.calls k _ _ t344 gq2 A2_0 c2_0 l2_0 t347 _ ?side1 ?side2 ?side3 ?side4 ?side5 A5.out).mono ?_); (case side1 => repeat (first | exact (Kd.R_reads' HO346.out).2.2 | (with_reducible refine Kd.C_alloc ?_ _) | (with_reducible refine Kd.C_drewN ?_ _) | (with_reducible refine Kd.C_drew ?_))); (case side2 => exact (Kd.R_reads' HO346.out).2.1); (case side3 => repeat (first | exact (Kd.C_below HR2_0.out HB.out) | (with_reducible refine Kd.C_alloc ?_ _) | (with_reducible refine Kd.C_drewN ?_ _) | (with_reducible refine Kd.C_drew ?_))); (case side4 => exact HC2_0.out); (case side5 => exact by (with_reducible repeat (first | refine Kn ?_ _ | refine Ke ?_ | refine Ka ?_ _)); exact BK343.out); rintro e w10 ⟨rfl, hb⟩; refine ⟨_, rfl, ?_⟩; have n0_ := Am (Kd.R_below (by (with_reducible repeat (first | apply Ra | apply Rn | apply Rd)); exact HO346.out) hb); have n1_ := Am (Kb (g := gq1) (o := .cells #[.slice A1_0 l1_0.length c1_0] 22 (0, 0)) (by (with_reducible repeat (first | refine Kn ?_ _ | refine Ke ?_ | refine Ka ?_ _)); exact BK342.out) hb); have n2_ := Am (Kb (g := gq2) (o := .cells #[.slice A2_0 l2_0.length c2_0] 23 (0, 0)) (by (with_reducible repeat (first | refine Kn ?_ _ | refine Ke ?_ | refine Ka ?_ _)); exact BK343.out) hb); have n3_ := Am (Bt (by repeat (first | (with_reducible first | exact HB.out | apply Ba | apply Bn | apply Bd | refine Bs ?_ GE342.out | refine Bs ?_ GE343.out) | exact HB.out)) hb); clear HO346; clear BK342; clear BK343; clear HB; have HO346 := n0_; have BK342 := n1_; have BK343 := n2_; have HB := n3_; clear n0_ n1_ n2_ n3_; (try clear hb); (try clear hb2); (try clear hk); (try clear hi)))
 go_ret
 exact ⟨by first | rfl | (simp [*, errW_none, errW_some] <;> rfl), by repeat (first | (with_reducible first | exact HB.out | apply Ba | apply Bn | apply Bd | refine Bs ?_ GE342.out | refine Bs ?_ GE343.out) | exact HB.out)⟩
end Go.Proofs.Ytpboalgecejoeaa.QFnOrders
