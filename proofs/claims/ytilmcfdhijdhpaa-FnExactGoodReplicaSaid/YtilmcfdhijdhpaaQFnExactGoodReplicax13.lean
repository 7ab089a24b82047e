-- Written by a program of this session (wip/mk.py) over the kit's print: Lean checks it.
import Derived.Test.YtilmcfdhijdhpaaQFnExactGoodReplicax0
namespace Go.Proofs.Ytilmcfdhijdhpaa.QFnExactGoodReplica
open Go.Proofs.YtilmcfdhijdhpaaW.PrintWords renaming below_alloc → Ba, pw_below_drewN → Bn, below_drew1 → Bd, below_step → Bt, blk_alloc → Ka, blk_below → Kb, blk_cell → Kc
open List renaming setIfInBounds_toArray → Lt, set_cons_zero → Lz, set_cons_succ → Ls
open Go.World renaming block_lt_of_cell? → bl_
open Go.Proofs.YtilmcfdhijdhpaaW.PrintWords.Aside0 renaming mk → Am
open Go.Proofs.YtilmcfdhijdhpaaW.PrintWords renaming Aside0 → Ad
open Go.RowKit Go.Proofs.YtilmcfdhijdhpaaW.PrintWords Go.Proofs.YtilmcfdhijdhpaaW.PrintLast Go.Proofs.YtilmcfdhijdhpaaW.PrintMore
attribute [local go_sem] max2_int min2_int max_two min_two max_three min_three max_four min_four   -- for this text's walks alone
open Go.Proofs.YtilmcfdhijdhpaaW.PrintWords.Kd renaming C_below → Cb
open Go.Proofs.YtilmcfdhijdhpaaW.PrintWords renaming below_then → Bh
set_option linter.unusedVariables false
set_option linter.unusedSimpArgs false
theorem laws_eqCmd.only {o : Option Bool} {t : Option Bool} {r : Bool} (h : (o.bind fun b => if b = true then t else none) = some r) : o = some true ∧ t = some r := by
 obtain ⟨b, h1, h2⟩ := Option.bind_eq_some_iff.1 h
 cases b with
 | false => cases h2
 | true => exact ⟨h1, h2⟩
def laws_eqCmd.f (a0_0 : Int) (a0_1 : Int) (a0_2 : Int) (a0_3 : Int) (a0_4 : Int) (a1_0 : Int) (a1_1 : Int) (a1_2 : Int) (a1_3 : Int) (a1_4 : Int) : Option Bool := if a0_0 = a1_0 then (if a0_1 = a1_1 then (if a0_2 = a1_2 then (if a0_3 = a1_3 then (if a0_4 = a1_4 then (some true) else none) else none) else none) else none) else none
set_option maxHeartbeats 4000000 in
set_option maxRecDepth 100000 in
theorem laws_eqCmd.calls (a0_0 : Int) (a0_1 : Int) (a0_2 : Int) (a0_3 : Int) (a0_4 : Int) (a1_0 : Int) (a1_1 : Int) (a1_2 : Int) (a1_3 : Int) (a1_4 : Int) (r : Bool) (w : World)   (h : laws_eqCmd.f a0_0 a0_1 a0_2 a0_3 a0_4 a1_0 a1_1 a1_2 a1_3 a1_4 = some r) :
  Calls Try.prog 105 #[.agg #[.int .i64 a0_0, .int .i64 a0_1, .int .i64 a0_2, .int .i64 a0_3, .int .i64 a0_4], .agg #[.int .i64 a1_0, .int .i64 a1_1, .int .i64 a1_2, .int .i64 a1_3, .int .i64 a1_4]] w fun e w' => e = .returned (.bool r) ∧ Below w.heap.size w w' := by
 have hu0 := Try.underlying28
 unfold laws_eqCmd.f at h
 by_cases e_ : a0_0 = a1_0
 case neg => rw [if_neg e_] at h; cases h
 subst e_
 rw [if_pos rfl] at h
 by_cases e_ : a0_1 = a1_1
 case neg => rw [if_neg e_] at h; cases h
 subst e_
 rw [if_pos rfl] at h
 by_cases e_ : a0_2 = a1_2
 case neg => rw [if_neg e_] at h; cases h
 subst e_
 rw [if_pos rfl] at h
 by_cases e_ : a0_3 = a1_3
 case neg => rw [if_neg e_] at h; cases h
 subst e_
 rw [if_pos rfl] at h
 by_cases e_ : a0_4 = a1_4
 case neg => rw [if_neg e_] at h; cases h
 subst e_
 rw [if_pos rfl] at h
 obtain rfl : true = r := Option.some.inj h
 clear h
 go_enter Try.func105, Try.ntmps105
 go_upto_region 1 with (fail)
 refine letC (fun W_ => ∃ ga gb : Nat, ga = w.heap.size ∧ gb = w.heap.size + 1 ∧ Below w.heap.size w W_ ∧ W_.heap[ga]? = some (.cells #[.int .i64 a0_0, .int .i64 a0_1, .int .i64 a0_2, .int .i64 a0_3, .int .i64 a0_4] 28 (0, 0)) ∧ W_.heap[gb]? = some (.cells #[.int .i64 a0_0, .int .i64 a0_1, .int .i64 a0_2, .int .i64 a0_3, .int .i64 a0_4] 28 (0, 0))) ⟨_, _, rfl, rfl, Ba (Ba (Below.refl _ _) _) _, by simpa using Ka (blk_new w (.cells #[.int .i64 a0_0, .int .i64 a0_1, .int .i64 a0_2, .int .i64 a0_3, .int .i64 a0_4] 28)) (.cells #[.int .i64 a0_0, .int .i64 a0_1, .int .i64 a0_2, .int .i64 a0_3, .int .i64 a0_4] 28), by simpa using blk_new (w.alloc (.cells #[.int .i64 a0_0, .int .i64 a0_1, .int .i64 a0_2, .int .i64 a0_3, .int .i64 a0_4] 28)) (.cells #[.int .i64 a0_0, .int .i64 a0_1, .int .i64 a0_2, .int .i64 a0_3, .int .i64 a0_4] 28)⟩ ?_
 rintro W0 ⟨ga, gb, e_ga, e_gb, hb, x_ga, x_gb⟩
 have HZ := Am hb
 have BA := Am x_ga
 have BB := Am x_gb
 have HB : Ad (Below W0.heap.size W0 W0) := ⟨Below.refl _ _⟩
 rw [← e_gb, ← e_ga]
 clear hb x_ga x_gb e_ga e_gb
 have qa0 : W0.cell? ⟨ga, 0, none⟩ = some (.int .i64 a0_0) := (Kc (Kb BA.out HB.out) 0).trans rfl
 have qb0 : W0.cell? ⟨gb, 0, none⟩ = some (.int .i64 a0_0) := (Kc (Kb BB.out HB.out) 0).trans rfl
 have qa1 : W0.cell? ⟨ga, 1, none⟩ = some (.int .i64 a0_1) := (Kc (Kb BA.out HB.out) 1).trans rfl
 have qb1 : W0.cell? ⟨gb, 1, none⟩ = some (.int .i64 a0_1) := (Kc (Kb BB.out HB.out) 1).trans rfl
 have qa2 : W0.cell? ⟨ga, 2, none⟩ = some (.int .i64 a0_2) := (Kc (Kb BA.out HB.out) 2).trans rfl
 have qb2 : W0.cell? ⟨gb, 2, none⟩ = some (.int .i64 a0_2) := (Kc (Kb BB.out HB.out) 2).trans rfl
 have qa3 : W0.cell? ⟨ga, 3, none⟩ = some (.int .i64 a0_3) := (Kc (Kb BA.out HB.out) 3).trans rfl
 have qb3 : W0.cell? ⟨gb, 3, none⟩ = some (.int .i64 a0_3) := (Kc (Kb BB.out HB.out) 3).trans rfl
 have qa4 : W0.cell? ⟨ga, 4, none⟩ = some (.int .i64 a0_4) := (Kc (Kb BA.out HB.out) 4).trans rfl
 have qb4 : W0.cell? ⟨gb, 4, none⟩ = some (.int .i64 a0_4) := (Kc (Kb BB.out HB.out) 4).trans rfl
 go_wp2
 go_ret
 exact ⟨rfl, Bh HZ.out HZ.out.size HB.out⟩
def laws_eqIntS.l0 : Nat → List Int → List Int → Int → Option (Bool)
 | 0, _, _, _ => none
 | k + 1, x0, x1, x5 => if x5 < (x0.length : Int) then (if 0 ≤ x5 then (if x5 < (x1.length : Int) then (if (rd x0 x5) = (rd x1 x5) then (laws_eqIntS.l0 k x0 x1 (wrap64 (x5 + 1))) else (some false)) else (none)) else (none)) else (some true)
def laws_eqIntS.f (k : Nat) (l0 : List Int) (l1 : List Int) : Option (Bool) := if (l0.length : Int) = (l1.length : Int) then (laws_eqIntS.l0 k l0 l1 0) else (some false)
theorem laws_eqIntS.mono_l : ∀ k, (∀ y0 y1 y2, LeO (laws_eqIntS.l0 k y0 y1 y2) (laws_eqIntS.l0 (k + 1) y0 y1 y2))
 | 0 => fun _ _ _ r h => by simp [laws_eqIntS.l0] at h
 | k + 1 => by
  have ih0 := laws_eqIntS.mono_l k
  ·intro y0 y1 y2
   unfold laws_eqIntS.l0
   repeat' first
   | (with_reducible exact ih0 _ _ _)
   | (with_reducible exact LeO.refl _)
   | (with_reducible exact LeO.none _)
   | (with_reducible refine LeO.ite ?_ ?_)
   | (with_reducible refine LeO.bind ?_ (fun _ => ?_))
   | exact ih0 _ _ _
   | exact LeO.none _
   | refine LeO.ite ?_ ?_
   | refine LeO.bind ?_ (fun _ => ?_)
theorem laws_eqIntS.mono : ∀ a0 a1 k, LeO (laws_eqIntS.f k a0 a1) (laws_eqIntS.f (k + 1) a0 a1) := by
 intro a0 a1 k
 have ih0 := laws_eqIntS.mono_l k
 unfold laws_eqIntS.f
 repeat' first
   | (with_reducible exact ih0 _ _ _)
   | (with_reducible exact LeO.refl _)
   | (with_reducible exact LeO.none _)
   | (with_reducible refine LeO.ite ?_ ?_)
   | (with_reducible refine LeO.bind ?_ (fun _ => ?_))
   | exact ih0 _ _ _
   | exact LeO.none _
   | refine LeO.ite ?_ ?_
   | refine LeO.bind ?_ (fun _ => ?_)
set_option maxHeartbeats 8000000 in
set_option maxRecDepth 100000 in
theorem laws_eqIntS.calls (k : Nat) (A0 : Option Addr) (c0 : Nat) (l0 : List Int) (A1 : Option Addr) (c1 : Nat) (l1 : List Int) (r : Bool) (w : World) (hr0 : Kd.C (Kd.int .i64) w A0 l0.length l0) (hc0 : l0.length ≤ c0) (hr1 : Kd.C (Kd.int .i64) w A1 l1.length l1) (hc1 : l1.length ≤ c1) (h : laws_eqIntS.f k l0 l1 = some r) :
  Calls Try.prog 107 #[.slice A0 l0.length c0, .slice A1 l1.length c1] w fun e w' => e = .returned (.bool r) ∧ Drawn0 w w' := by
 have HR0 := Am hr0
 have HC0 := Am hc0
 clear hr0 hc0
 have HR1 := Am hr1
 have HC1 := Am hc1
 clear hr1 hc1
 have H : (if (l0.length : Int) = (l1.length : Int) then (laws_eqIntS.l0 k l0 l1 0) else (some false)) = some r := h
 clear h
 by_cases c3 : (l0.length : Int) = (l1.length : Int)
 ·rw [if_pos c3] at H
  have c3b0 : ((l0.length : Int) == (l1.length : Int)) = true := beq_iff_eq.mpr c3
  have c3b1 : ((l0.length : Int) != (l1.length : Int)) = false := bne_eq_false_iff_eq.mpr c3
  have c3b2 : (l0.length == l1.length) = true := by first | simpa using c3 | (simp at c3 ⊢; omega)
  clear c3
  have H' := Am H
  clear H
  go_enter Try.func107, Try.ntmps107
  go_wp2
  repeat (go_quiet (fail); try go_wp2)
  go_loopg [5] k (fun kq v5 w' => ∃ (x5_1 : Int), v5 = .int .i64 x5_1 ∧ Ad (laws_eqIntS.l0 kq l0 l1 x5_1 = some r) ∧ Ad (kq ≤ k) ∧ Drawn0 w w')
  case atStart => exact ⟨(0), (by first | rfl | (simp; done) | (simp [*]; done)), H', ⟨Nat.le_refl _⟩, by repeat (first | exact Drawn0.refl _ | apply Drawn0.step)⟩
  case round =>
   clear H'
   try clear c1
   try clear p2
   try clear c3
   try clear c3b0
   try clear c3b1
   try clear c3b2
   obtain ⟨x5_1, rfl, HA, HK1, ⟨m1, rfl⟩⟩ := hrel
   cases gk with
   | zero => exact absurd HA.out (by simp [laws_eqIntS.l0])
   | succ k1 =>
    have H := HA.out
    clear HA
    simp only [laws_eqIntS.l0] at H
    by_cases c4 : x5_1 < (l0.length : Int)
    ·rw [if_pos c4] at H
     have c4b0 : decide (x5_1 < (l0.length : Int)) = true := decide_eq_true c4
     clear c4
     by_cases c5 : 0 ≤ x5_1
     ·rw [if_pos c5] at H
      have c5b0 : decide (0 ≤ x5_1) = true := decide_eq_true c5
      clear c5
      by_cases c6 : x5_1 < (l1.length : Int)
      ·rw [if_pos c6] at H
       have c6b0 : decide (x5_1 < (l1.length : Int)) = true := decide_eq_true c6
       clear c6
       by_cases c7 : (rd l0 x5_1) = (rd l1 x5_1)
       ·rw [if_pos c7] at H
        have c7b0 : ((rd l0 x5_1) == (rd l1 x5_1)) = true := beq_iff_eq.mpr c7
        have c7b1 : ((rd l0 x5_1) != (rd l1 x5_1)) = false := bne_eq_false_iff_eq.mpr c7
        clear c7
        have H' := Am H
        clear H
        have p332 : 0 ≤ (x5_1 : Int) := of_decide_eq_true (by assumption)
        have q332 : x5_1 < (l0.length : Int) := of_decide_eq_true (by assumption)
        obtain ⟨ad332, e332, hx332_0⟩ := Kd.at_int HR0.out x5_1 p332 q332
        cases e332
        replace p332 := eq_true p332
        replace q332 := eq_true q332
        have p333 : 0 ≤ (x5_1 : Int) := of_decide_eq_true (by assumption)
        have q333 : x5_1 < (l1.length : Int) := of_decide_eq_true (by assumption)
        obtain ⟨ad333, e333, hx333_0⟩ := Kd.at_int HR1.out x5_1 p333 q333
        cases e333
        replace p333 := eq_true p333
        replace q333 := eq_true q333
        go_wp2
        repeat (go_quiet (fail); try go_wp2)
        go_roundg k1
        case measure => have := HK1.out; omega
        case rel => exact ⟨(wrap64 (x5_1 + 1)), (by first | rfl | (simp; done) | (simp [*]; done)), H', ⟨by have := HK1.out; omega⟩, by repeat (first | exact Drawn0.refl _ | apply Drawn0.step)⟩
       ·rw [if_neg c7] at H
        have c7b0 : ((rd l0 x5_1) == (rd l1 x5_1)) = false := beq_eq_false_iff_ne.mpr c7
        have c7b1 : ((rd l0 x5_1) != (rd l1 x5_1)) = true := bne_iff_ne.mpr c7
        obtain rfl := Option.some.inj H
        have p332 : 0 ≤ (x5_1 : Int) := of_decide_eq_true (by assumption)
        have q332 : x5_1 < (l0.length : Int) := of_decide_eq_true (by assumption)
        obtain ⟨ad332, e332, hx332_0⟩ := Kd.at_int HR0.out x5_1 p332 q332
        cases e332
        replace p332 := eq_true p332
        replace q332 := eq_true q332
        have p333 : 0 ≤ (x5_1 : Int) := of_decide_eq_true (by assumption)
        have q333 : x5_1 < (l1.length : Int) := of_decide_eq_true (by assumption)
        obtain ⟨ad333, e333, hx333_0⟩ := Kd.at_int HR1.out x5_1 p333 q333
        cases e333
        replace p333 := eq_true p333
        replace q333 := eq_true q333
        go_wp2
        repeat (go_quiet (fail); try go_wp2)
        go_ret
        exact ⟨by first | rfl | (simp; done) | (simp [*]; done), by repeat (first | exact Drawn0.refl _ | apply Drawn0.step)⟩
      ·rw [if_neg c6] at H
       exact absurd H (by simp)
     ·rw [if_neg c5] at H
      exact absurd H (by simp)
    ·rw [if_neg c4] at H
     have c4b0 : decide (x5_1 < (l0.length : Int)) = false := decide_eq_false c4
     clear c4
     obtain rfl := Option.some.inj H
     go_wp2
     repeat (go_quiet (fail); try go_wp2)
     go_ret
     exact ⟨by first | rfl | (simp; done) | (simp [*]; done), by repeat (first | exact Drawn0.refl _ | apply Drawn0.step)⟩
 ·rw [if_neg c3] at H
  have c3b0 : ((l0.length : Int) == (l1.length : Int)) = false := beq_eq_false_iff_ne.mpr c3
  have c3b1 : ((l0.length : Int) != (l1.length : Int)) = true := bne_iff_ne.mpr c3
  have c3b2 : (l0.length == l1.length) = false := by first | simpa using c3 | (simp at c3 ⊢; omega)
  obtain rfl := Option.some.inj H
  go_enter Try.func107, Try.ntmps107
  go_wp2
  repeat (go_quiet (fail); try go_wp2)
  go_ret
  exact ⟨by first | rfl | (simp; done) | (simp [*]; done), by repeat (first | exact Drawn0.refl _ | apply Drawn0.step)⟩
theorem laws_eqAttr.only {o : Option Bool} {t : Option Bool} {r : Bool} (h : (o.bind fun b => if b = true then t else none) = some r) : o = some true ∧ t = some r := by
 obtain ⟨b, h1, h2⟩ := Option.bind_eq_some_iff.1 h
 cases b with
 | false => cases h2
 | true => exact ⟨h1, h2⟩
def laws_eqAttr.f (k : Nat) (a0_0 : Int) (l0_1 : List Int) (a1_0 : Int) (l1_1 : List Int) : Option Bool := if a0_0 = a1_0 then ((laws_eqIntS.f k l0_1 l1_1).bind fun t => if t = true then (some true) else none) else none
theorem laws_eqAttr.mono : ∀ a0 a1 a2 a3 k, LeO (laws_eqAttr.f k a0 a1 a2 a3) (laws_eqAttr.f (k + 1) a0 a1 a2 a3) := by
 intro a0 a1 a2 a3 k
 unfold laws_eqAttr.f
 repeat' first
  | (with_reducible exact laws_eqIntS.mono _ _ _)
  | (with_reducible exact LeO.refl _)
  | (with_reducible exact LeO.none _)
  | (with_reducible refine LeO.ite ?_ ?_)
  | (with_reducible refine LeO.bind ?_ (fun _ => ?_))
set_option maxHeartbeats 4000000 in
set_option maxRecDepth 100000 in
theorem laws_eqAttr.calls (k : Nat) (a0_0 : Int) (A0_1 : Option Addr) (c0_1 : Nat) (l0_1 : List Int) (a1_0 : Int) (A1_1 : Option Addr) (c1_1 : Nat) (l1_1 : List Int) (r : Bool) (w : World) (hr0_1 : Kd.C (Kd.int .i64) w A0_1 l0_1.length l0_1) (hc0_1 : l0_1.length ≤ c0_1) (hr1_1 : Kd.C (Kd.int .i64) w A1_1 l1_1.length l1_1) (hc1_1 : l1_1.length ≤ c1_1) (h : laws_eqAttr.f k a0_0 l0_1 a1_0 l1_1 = some r) :
  Calls Try.prog 106 #[.agg #[.int .i64 a0_0, .slice A0_1 l0_1.length c0_1], .agg #[.int .i64 a1_0, .slice A1_1 l1_1.length c1_1]] w fun e w' => e = .returned (.bool r) ∧ Below w.heap.size w w' := by
 have hu0 := Try.underlying33
 have Hr0_1 := Am hr0_1
 have Hr1_1 := Am hr1_1
 clear hr0_1 hr1_1
 unfold laws_eqAttr.f at h
 by_cases e_ : a0_0 = a1_0
 case neg => rw [if_neg e_] at h; cases h
 subst e_
 rw [if_pos rfl] at h
 obtain ⟨hq, h⟩ := laws_eqAttr.only h
 have F1 := Am hq
 clear hq
 obtain rfl : true = r := Option.some.inj h
 clear h
 go_enter Try.func106, Try.ntmps106
 go_upto_region 1 with (fail)
 refine letC (fun W_ => ∃ ga gb : Nat, ga = w.heap.size ∧ gb = w.heap.size + 1 ∧ Below w.heap.size w W_ ∧ W_.heap[ga]? = some (.cells #[.int .i64 a0_0, .slice A0_1 l0_1.length c0_1] 33 (0, 0)) ∧ W_.heap[gb]? = some (.cells #[.int .i64 a0_0, .slice A1_1 l1_1.length c1_1] 33 (0, 0))) ⟨_, _, rfl, rfl, Ba (Ba (Below.refl _ _) _) _, by simpa using Ka (blk_new w (.cells #[.int .i64 a0_0, .slice A0_1 l0_1.length c0_1] 33)) (.cells #[.int .i64 a0_0, .slice A1_1 l1_1.length c1_1] 33), by simpa using blk_new (w.alloc (.cells #[.int .i64 a0_0, .slice A0_1 l0_1.length c0_1] 33)) (.cells #[.int .i64 a0_0, .slice A1_1 l1_1.length c1_1] 33)⟩ ?_
 rintro W0 ⟨ga, gb, e_ga, e_gb, hb, x_ga, x_gb⟩
 have HZ := Am hb
 have BA := Am x_ga
 have BB := Am x_gb
 have HB : Ad (Below W0.heap.size W0 W0) := ⟨Below.refl _ _⟩
 rw [← e_gb, ← e_ga]
 clear hb x_ga x_gb e_ga e_gb
 have qa0 : W0.cell? ⟨ga, 0, none⟩ = some (.int .i64 a0_0) := (Kc (Kb BA.out HB.out) 0).trans rfl
 have qb0 : W0.cell? ⟨gb, 0, none⟩ = some (.int .i64 a0_0) := (Kc (Kb BB.out HB.out) 0).trans rfl
 have qa1 : W0.cell? ⟨ga, 1, none⟩ = some (.slice A0_1 l0_1.length c0_1) := (Kc (Kb BA.out HB.out) 1).trans rfl
 have qb1 : W0.cell? ⟨gb, 1, none⟩ = some (.slice A1_1 l1_1.length c1_1) := (Kc (Kb BB.out HB.out) 1).trans rfl
 go_wp2_with fail
 refine (laws_eqIntS.calls k A0_1 c0_1 l0_1 A1_1 c1_1 l1_1 true W0 (Cb Hr0_1.out (Bh HZ.out HZ.out.size HB.out)) hc0_1 (Cb Hr1_1.out (Bh HZ.out HZ.out.size HB.out)) hc1_1 F1.out).mono ?_
 rintro e W1 ⟨rfl, hd⟩
 have hb := hd.below
 replace HB := Am (Bh HB.out HB.out.size hb)
 clear hb hd F1 qa0 qb0 qa1 qb1
 go_wp2
 go_ret
 exact ⟨rfl, Bh HZ.out HZ.out.size HB.out⟩
theorem laws_eqRow.only {o : Option Bool} {t : Option Bool} {r : Bool} (h : (o.bind fun b => if b = true then t else none) = some r) : o = some true ∧ t = some r := by
 obtain ⟨b, h1, h2⟩ := Option.bind_eq_some_iff.1 h
 cases b with
 | false => cases h2
 | true => exact ⟨h1, h2⟩
def laws_eqRow.f (k : Nat) (a0_0 : Int) (a0_1 : Int) (a0_2 : Int) (a0_3 : Int) (a0_4 : Int) (a0_5 : Int) (a0_6 : Int) (a0_7 : Int) (a0_8 : Int) (l0_9 : List Int) (a1_0 : Int) (a1_1 : Int) (a1_2 : Int) (a1_3 : Int) (a1_4 : Int) (a1_5 : Int) (a1_6 : Int) (a1_7 : Int) (a1_8 : Int) (l1_9 : List Int) : Option Bool := if a0_0 = a1_0 then (if a0_1 = a1_1 then (if a0_2 = a1_2 then ((laws_eqCmd.f a0_3 a0_4 a0_5 a0_6 a0_7 a1_3 a1_4 a1_5 a1_6 a1_7).bind fun t => if t = true then ((laws_eqAttr.f k a0_8 l0_9 a1_8 l1_9).bind fun t => if t = true then (some true) else none) else none) else none) else none) else none
theorem laws_eqRow.mono : ∀ a0 a1 a2 a3 a4 a5 a6 a7 a8 a9 a10 a11 a12 a13 a14 a15 a16 a17 a18 a19 k, LeO (laws_eqRow.f k a0 a1 a2 a3 a4 a5 a6 a7 a8 a9 a10 a11 a12 a13 a14 a15 a16 a17 a18 a19) (laws_eqRow.f (k + 1) a0 a1 a2 a3 a4 a5 a6 a7 a8 a9 a10 a11 a12 a13 a14 a15 a16 a17 a18 a19) := by
 intro a0 a1 a2 a3 a4 a5 a6 a7 a8 a9 a10 a11 a12 a13 a14 a15 a16 a17 a18 a19 k
 unfold laws_eqRow.f
 repeat' first
  | (with_reducible exact laws_eqAttr.mono _ _ _ _ _)
  | (with_reducible exact LeO.refl _)
  | (with_reducible exact LeO.none _)
  | (with_reducible refine LeO.ite ?_ ?_)
  | (with_reducible refine LeO.bind ?_ (fun _ => ?_))
set_option maxHeartbeats 4000000 in
set_option maxRecDepth 100000 in
theorem laws_eqRow.calls (k : Nat) (a0_0 : Int) (a0_1 : Int) (a0_2 : Int) (a0_3 : Int) (a0_4 : Int) (a0_5 : Int) (a0_6 : Int) (a0_7 : Int) (a0_8 : Int) (A0_9 : Option Addr) (c0_9 : Nat) (l0_9 : List Int) (a1_0 : Int) (a1_1 : Int) (a1_2 : Int) (a1_3 : Int) (a1_4 : Int) (a1_5 : Int) (a1_6 : Int) (a1_7 : Int) (a1_8 : Int) (A1_9 : Option Addr) (c1_9 : Nat) (l1_9 : List Int) (r : Bool) (w : World) (hr0_9 : Kd.C (Kd.int .i64) w A0_9 l0_9.length l0_9) (hc0_9 : l0_9.length ≤ c0_9) (hr1_9 : Kd.C (Kd.int .i64) w A1_9 l1_9.length l1_9) (hc1_9 : l1_9.length ≤ c1_9) (h : laws_eqRow.f k a0_0 a0_1 a0_2 a0_3 a0_4 a0_5 a0_6 a0_7 a0_8 l0_9 a1_0 a1_1 a1_2 a1_3 a1_4 a1_5 a1_6 a1_7 a1_8 l1_9 = some r) :
  Calls Try.prog 111 #[.agg #[.int .i64 a0_0, .int .i64 a0_1, .int .i64 a0_2, .int .i64 a0_3, .int .i64 a0_4, .int .i64 a0_5, .int .i64 a0_6, .int .i64 a0_7, .int .i64 a0_8, .slice A0_9 l0_9.length c0_9], .agg #[.int .i64 a1_0, .int .i64 a1_1, .int .i64 a1_2, .int .i64 a1_3, .int .i64 a1_4, .int .i64 a1_5, .int .i64 a1_6, .int .i64 a1_7, .int .i64 a1_8, .slice A1_9 l1_9.length c1_9]] w fun e w' => e = .returned (.bool r) ∧ Below w.heap.size w w' := by
 have hu0 := Try.underlying39
 have hu1 := Try.underlying28
 have hu2 := Try.underlying33
 have Hr0_9 := Am hr0_9
 have Hr1_9 := Am hr1_9
 clear hr0_9 hr1_9
 unfold laws_eqRow.f at h
 by_cases e_ : a0_0 = a1_0
 case neg => rw [if_neg e_] at h; cases h
 subst e_
 rw [if_pos rfl] at h
 by_cases e_ : a0_1 = a1_1
 case neg => rw [if_neg e_] at h; cases h
 subst e_
 rw [if_pos rfl] at h
 by_cases e_ : a0_2 = a1_2
 case neg => rw [if_neg e_] at h; cases h
 subst e_
 rw [if_pos rfl] at h
 obtain ⟨hq, h⟩ := laws_eqRow.only h
 have F3 := Am hq
 clear hq
 obtain ⟨hq, h⟩ := laws_eqRow.only h
 have F4 := Am hq
 clear hq
 obtain rfl : true = r := Option.some.inj h
 clear h
 go_enter Try.func111, Try.ntmps111
 go_upto_region 1 with (fail)
 refine letC (fun W_ => ∃ ga gb : Nat, ga = w.heap.size ∧ gb = w.heap.size + 1 ∧ Below w.heap.size w W_ ∧ W_.heap[ga]? = some (.cells #[.int .i64 a0_0, .int .i64 a0_1, .int .i64 a0_2, .int .i64 a0_3, .int .i64 a0_4, .int .i64 a0_5, .int .i64 a0_6, .int .i64 a0_7, .int .i64 a0_8, .slice A0_9 l0_9.length c0_9] 39 (0, 0)) ∧ W_.heap[gb]? = some (.cells #[.int .i64 a0_0, .int .i64 a0_1, .int .i64 a0_2, .int .i64 a1_3, .int .i64 a1_4, .int .i64 a1_5, .int .i64 a1_6, .int .i64 a1_7, .int .i64 a1_8, .slice A1_9 l1_9.length c1_9] 39 (0, 0))) ⟨_, _, rfl, rfl, Ba (Ba (Below.refl _ _) _) _, by simpa using Ka (blk_new w (.cells #[.int .i64 a0_0, .int .i64 a0_1, .int .i64 a0_2, .int .i64 a0_3, .int .i64 a0_4, .int .i64 a0_5, .int .i64 a0_6, .int .i64 a0_7, .int .i64 a0_8, .slice A0_9 l0_9.length c0_9] 39)) (.cells #[.int .i64 a0_0, .int .i64 a0_1, .int .i64 a0_2, .int .i64 a1_3, .int .i64 a1_4, .int .i64 a1_5, .int .i64 a1_6, .int .i64 a1_7, .int .i64 a1_8, .slice A1_9 l1_9.length c1_9] 39), by simpa using blk_new (w.alloc (.cells #[.int .i64 a0_0, .int .i64 a0_1, .int .i64 a0_2, .int .i64 a0_3, .int .i64 a0_4, .int .i64 a0_5, .int .i64 a0_6, .int .i64 a0_7, .int .i64 a0_8, .slice A0_9 l0_9.length c0_9] 39)) (.cells #[.int .i64 a0_0, .int .i64 a0_1, .int .i64 a0_2, .int .i64 a1_3, .int .i64 a1_4, .int .i64 a1_5, .int .i64 a1_6, .int .i64 a1_7, .int .i64 a1_8, .slice A1_9 l1_9.length c1_9] 39)⟩ ?_
 rintro W0 ⟨ga, gb, e_ga, e_gb, hb, x_ga, x_gb⟩
 have HZ := Am hb
 have BA := Am x_ga
 have BB := Am x_gb
 have HB : Ad (Below W0.heap.size W0 W0) := ⟨Below.refl _ _⟩
 rw [← e_gb, ← e_ga]
 clear hb x_ga x_gb e_ga e_gb
 have qa0 : W0.cell? ⟨ga, 0, none⟩ = some (.int .i64 a0_0) := (Kc (Kb BA.out HB.out) 0).trans rfl
 have qb0 : W0.cell? ⟨gb, 0, none⟩ = some (.int .i64 a0_0) := (Kc (Kb BB.out HB.out) 0).trans rfl
 have qa1 : W0.cell? ⟨ga, 1, none⟩ = some (.int .i64 a0_1) := (Kc (Kb BA.out HB.out) 1).trans rfl
 have qb1 : W0.cell? ⟨gb, 1, none⟩ = some (.int .i64 a0_1) := (Kc (Kb BB.out HB.out) 1).trans rfl
 have qa2 : W0.cell? ⟨ga, 2, none⟩ = some (.int .i64 a0_2) := (Kc (Kb BA.out HB.out) 2).trans rfl
 have qb2 : W0.cell? ⟨gb, 2, none⟩ = some (.int .i64 a0_2) := (Kc (Kb BB.out HB.out) 2).trans rfl
 have qa3 : W0.cell? ⟨ga, 3, none⟩ = some (.int .i64 a0_3) := (Kc (Kb BA.out HB.out) 3).trans rfl
 have qa4 : W0.cell? ⟨ga, 4, none⟩ = some (.int .i64 a0_4) := (Kc (Kb BA.out HB.out) 4).trans rfl
 have qa5 : W0.cell? ⟨ga, 5, none⟩ = some (.int .i64 a0_5) := (Kc (Kb BA.out HB.out) 5).trans rfl
 have qa6 : W0.cell? ⟨ga, 6, none⟩ = some (.int .i64 a0_6) := (Kc (Kb BA.out HB.out) 6).trans rfl
 have qa7 : W0.cell? ⟨ga, 7, none⟩ = some (.int .i64 a0_7) := (Kc (Kb BA.out HB.out) 7).trans rfl
 have qb3 : W0.cell? ⟨gb, 3, none⟩ = some (.int .i64 a1_3) := (Kc (Kb BB.out HB.out) 3).trans rfl
 have qb4 : W0.cell? ⟨gb, 4, none⟩ = some (.int .i64 a1_4) := (Kc (Kb BB.out HB.out) 4).trans rfl
 have qb5 : W0.cell? ⟨gb, 5, none⟩ = some (.int .i64 a1_5) := (Kc (Kb BB.out HB.out) 5).trans rfl
 have qb6 : W0.cell? ⟨gb, 6, none⟩ = some (.int .i64 a1_6) := (Kc (Kb BB.out HB.out) 6).trans rfl
 have qb7 : W0.cell? ⟨gb, 7, none⟩ = some (.int .i64 a1_7) := (Kc (Kb BB.out HB.out) 7).trans rfl
 go_wp2_with fail
 refine (laws_eqCmd.calls a0_3 a0_4 a0_5 a0_6 a0_7 a1_3 a1_4 a1_5 a1_6 a1_7 true W0  F3.out).mono ?_
 rintro e W1 ⟨rfl, hb⟩
 replace HB := Am (Bh HB.out HB.out.size hb)
 clear hb F3 qa0 qb0 qa1 qb1 qa2 qb2 qa3 qa4 qa5 qa6 qa7 qb3 qb4 qb5 qb6 qb7
 have qa8 : W1.cell? ⟨ga, 8, none⟩ = some (.int .i64 a0_8) := (Kc (Kb BA.out HB.out) 8).trans rfl
 have qa9 : W1.cell? ⟨ga, 9, none⟩ = some (.slice A0_9 l0_9.length c0_9) := (Kc (Kb BA.out HB.out) 9).trans rfl
 have qb8 : W1.cell? ⟨gb, 8, none⟩ = some (.int .i64 a1_8) := (Kc (Kb BB.out HB.out) 8).trans rfl
 have qb9 : W1.cell? ⟨gb, 9, none⟩ = some (.slice A1_9 l1_9.length c1_9) := (Kc (Kb BB.out HB.out) 9).trans rfl
 go_wp2_with fail
 refine (laws_eqAttr.calls k a0_8 A0_9 c0_9 l0_9 a1_8 A1_9 c1_9 l1_9 true W1 (Cb Hr0_9.out (Bh HZ.out HZ.out.size HB.out)) hc0_9 (Cb Hr1_9.out (Bh HZ.out HZ.out.size HB.out)) hc1_9 F4.out).mono ?_
 rintro e W2 ⟨rfl, hb⟩
 replace HB := Am (Bh HB.out HB.out.size hb)
 clear hb F4 qa8 qa9 qb8 qb9
 go_wp2
 go_ret
 exact ⟨rfl, Bh HZ.out HZ.out.size HB.out⟩
def laws_eqRowS.l0 : Nat → List (S39) → List (S39) → Int → Option (Bool)
 | 0, _, _, _ => none
 | k + 1, x0, x1, x5 => if x5 < (x0.length : Int) then (if 0 ≤ x5 then (if x5 < (x1.length : Int) then ((laws_eqRow.f k ((rd_T39 x0 x5).f0) ((rd_T39 x0 x5).f1) ((rd_T39 x0 x5).f2) ((rd_T39 x0 x5).f3.f0) ((rd_T39 x0 x5).f3.f1) ((rd_T39 x0 x5).f3.f2) ((rd_T39 x0 x5).f3.f3) ((rd_T39 x0 x5).f3.f4) ((rd_T39 x0 x5).f4.f0) ((rd_T39 x0 x5).f4.f1) ((rd_T39 x1 x5).f0) ((rd_T39 x1 x5).f1) ((rd_T39 x1 x5).f2) ((rd_T39 x1 x5).f3.f0) ((rd_T39 x1 x5).f3.f1) ((rd_T39 x1 x5).f3.f2) ((rd_T39 x1 x5).f3.f3) ((rd_T39 x1 x5).f3.f4) ((rd_T39 x1 x5).f4.f0) ((rd_T39 x1 x5).f4.f1)).bind fun t336 => (if t336 = true then (laws_eqRowS.l0 k x0 x1 (wrap64 (x5 + 1))) else (some false))) else (none)) else (none)) else (some true)
def laws_eqRowS.f (k : Nat) (l0 : List (S39)) (l1 : List (S39)) : Option (Bool) := if (l0.length : Int) = (l1.length : Int) then (laws_eqRowS.l0 k l0 l1 0) else (some false)
theorem laws_eqRowS.mono_l : ∀ k, (∀ y0 y1 y2, LeO (laws_eqRowS.l0 k y0 y1 y2) (laws_eqRowS.l0 (k + 1) y0 y1 y2))
 | 0 => fun _ _ _ r h => by simp [laws_eqRowS.l0] at h
 | k + 1 => by
  have ih0 := laws_eqRowS.mono_l k
  ·intro y0 y1 y2
   unfold laws_eqRowS.l0
   repeat' first
   | (with_reducible exact ih0 _ _ _)
   | (with_reducible exact laws_eqRow.mono _ _ _ _ _ _ _ _ _ _ _ _ _ _ _ _ _ _ _ _ _)
   | (with_reducible exact LeO.refl _)
   | (with_reducible exact LeO.none _)
   | (with_reducible refine LeO.ite ?_ ?_)
   | (with_reducible refine LeO.bind ?_ (fun _ => ?_))
   | exact ih0 _ _ _
   | exact laws_eqRow.mono _ _ _ _ _ _ _ _ _ _ _ _ _ _ _ _ _ _ _ _ _
   | exact LeO.none _
   | refine LeO.ite ?_ ?_
   | refine LeO.bind ?_ (fun _ => ?_)
theorem laws_eqRowS.mono : ∀ a0 a1 k, LeO (laws_eqRowS.f k a0 a1) (laws_eqRowS.f (k + 1) a0 a1) := by
 intro a0 a1 k
 have ih0 := laws_eqRowS.mono_l k
 unfold laws_eqRowS.f
 repeat' first
   | (with_reducible exact ih0 _ _ _)
   | (with_reducible exact laws_eqRow.mono _ _ _ _ _ _ _ _ _ _ _ _ _ _ _ _ _ _ _ _ _)
   | (with_reducible exact LeO.refl _)
   | (with_reducible exact LeO.none _)
   | (with_reducible refine LeO.ite ?_ ?_)
   | (with_reducible refine LeO.bind ?_ (fun _ => ?_))
   | exact ih0 _ _ _
   | exact laws_eqRow.mono _ _ _ _ _ _ _ _ _ _ _ _ _ _ _ _ _ _ _ _ _
   | exact LeO.none _
   | refine LeO.ite ?_ ?_
   | refine LeO.bind ?_ (fun _ => ?_)
def laws_eqRowS.T6 : Bool × List (List Nat × List Nat) := (true, [([], []), ([], []), ([0, 1], [0, 1]), ([2], [2]), ([], []), ([], []), ([4, 5], [4, 5]), ([6], [6]), ([3, 7], [3, 7]), ([8], [8])])
def laws_eqRowS.B6 : List Nat := [0, 0, 3, 7, 0, 0, 48, 112, 255, 511]
theorem laws_eqRowS.tab6 : rtab .any (opsOf Try.f104 6) = laws_eqRowS.T6 := by kernel_rfl
theorem laws_eqRowS.bits6 : waitsOk laws_eqRowS.T6.2 laws_eqRowS.B6 = true := by kernel_rfl
set_option maxHeartbeats 8000000 in
set_option maxRecDepth 100000 in
theorem laws_eqRowS.calls (k : Nat) (A0 : Option Addr) (c0 : Nat) (l0 : List (S39)) (A1 : Option Addr) (c1 : Nat) (l1 : List (S39)) (r : Bool) (w : World) (hr0 : Kd.C k39 w A0 l0.length l0) (hc0 : l0.length ≤ c0) (hr1 : Kd.C k39 w A1 l1.length l1) (hc1 : l1.length ≤ c1) (h : laws_eqRowS.f k l0 l1 = some r) :
  Calls Try.prog 104 #[.slice A0 l0.length c0, .slice A1 l1.length c1] w fun e w' => e = .returned (.bool r) ∧ Below w.heap.size w w' := by
 have hu39 := Try.underlying39
 have HR0 := Am hr0
 have HC0 := Am hc0
 clear hr0 hc0
 have HR1 := Am hr1
 have HC1 := Am hc1
 clear hr1 hc1
 have HB := Am (Below.refl w.heap.size w)
 have H : (if (l0.length : Int) = (l1.length : Int) then (laws_eqRowS.l0 k l0 l1 0) else (some false)) = some r := h
 clear h
 by_cases c3 : (l0.length : Int) = (l1.length : Int)
 ·rw [if_pos c3] at H
  have c3b0 : ((l0.length : Int) == (l1.length : Int)) = true := beq_iff_eq.mpr c3
  have c3b1 : ((l0.length : Int) != (l1.length : Int)) = false := bne_eq_false_iff_eq.mpr c3
  have c3b2 : (l0.length == l1.length) = true := by first | simpa using c3 | (simp at c3 ⊢; omega)
  clear c3
  have H' := Am H
  clear H
  go_enter Try.func104, Try.ntmps104
  go_wp2
  go_loopg [5] k (fun kq v5 w' => ∃ (x5_1 : Int), v5 = .int .i64 x5_1 ∧ Ad (laws_eqRowS.l0 kq l0 l1 x5_1 = some r) ∧ Ad (kq ≤ k) ∧ Ad (Below w.heap.size w w'))
  case atStart => exact ⟨(0), (by first | rfl | (simp; done) | (simp [*]; done)), H', ⟨Nat.le_refl _⟩, ⟨by repeat (first | exact HB.out | apply Ba | apply Bn | apply Bd)⟩⟩
  case round =>
   clear H'
   try clear c1
   try clear p2
   try clear c3
   try clear c3b0
   try clear c3b1
   try clear c3b2
   obtain ⟨x5_1, rfl, HA, HK1, HB⟩ := hrel
   cases gk with
   | zero => exact absurd HA.out (by simp [laws_eqRowS.l0])
   | succ k1 =>
    have H := HA.out
    clear HA
    simp only [laws_eqRowS.l0] at H
    by_cases c4 : x5_1 < (l0.length : Int)
    ·rw [if_pos c4] at H
     have c4b0 : decide (x5_1 < (l0.length : Int)) = true := decide_eq_true c4
     clear c4
     by_cases c5 : 0 ≤ x5_1
     ·rw [if_pos c5] at H
      have c5b0 : decide (0 ≤ x5_1) = true := decide_eq_true c5
      clear c5
      by_cases c6 : x5_1 < (l1.length : Int)
      ·rw [if_pos c6] at H
       have c6b0 : decide (x5_1 < (l1.length : Int)) = true := decide_eq_true c6
       clear c6
       replace H := Option.bind_eq_some_iff.mp H
       obtain ⟨t336, A70, H⟩ := H
       replace H : (if t336 = true then (laws_eqRowS.l0 k1 l0 l1 (wrap64 (x5_1 + 1))) else (some false)) = some r := H
       have A7 := Am A70
       clear A70
       by_cases c8 : t336 = true
       ·subst c8
        have H1 : (laws_eqRowS.l0 k1 l0 l1 (wrap64 (x5_1 + 1))) = some r := by rw [if_pos rfl] at H; exact H
        clear H
        have H := H1
        clear H1
        have H' := Am H
        clear H
        try go_wp2
        have n0_ := Am (Bd HB.out)
        clear HB
        have HB := n0_
        clear n0_
        have p334 : 0 ≤ (x5_1 : Int) := of_decide_eq_true (by assumption)
        have q334 : x5_1 < (l0.length : Int) := of_decide_eq_true (by assumption)
        obtain ⟨ad334, A334_9, c334_9, e334, hx334_0, hx334_1, hx334_2, hx334_3, hx334_4, hx334_5, hx334_6, hx334_7, hx334_8, hx334_9, hl334_9, hi334_9⟩ := at_T39 HR0.out x5_1 p334 q334
        have hw334_9 := hx334_9
        have hw334_8 := hx334_8
        have hw334_7 := hx334_7
        have hw334_6 := hx334_6
        have hw334_5 := hx334_5
        have hw334_4 := hx334_4
        have hw334_3 := hx334_3
        have hw334_2 := hx334_2
        have hw334_1 := hx334_1
        have hw334_0 := hx334_0
        cases e334
        replace hx334_0 := (HB.out.cell (bl_ w _ hx334_0)).trans hx334_0
        replace hx334_1 := (HB.out.cell (bl_ w _ hx334_1)).trans hx334_1
        replace hx334_2 := (HB.out.cell (bl_ w _ hx334_2)).trans hx334_2
        replace hx334_3 := (HB.out.cell (bl_ w _ hx334_3)).trans hx334_3
        replace hx334_4 := (HB.out.cell (bl_ w _ hx334_4)).trans hx334_4
        replace hx334_5 := (HB.out.cell (bl_ w _ hx334_5)).trans hx334_5
        replace hx334_6 := (HB.out.cell (bl_ w _ hx334_6)).trans hx334_6
        replace hx334_7 := (HB.out.cell (bl_ w _ hx334_7)).trans hx334_7
        replace hx334_8 := (HB.out.cell (bl_ w _ hx334_8)).trans hx334_8
        replace hx334_9 := (HB.out.cell (bl_ w _ hx334_9)).trans hx334_9
        have HR334_9 := Am hi334_9
        have HC334_9 := Am hl334_9
        clear hi334_9 hl334_9
        replace p334 := eq_true p334
        replace q334 := eq_true q334
        have p335 : 0 ≤ (x5_1 : Int) := of_decide_eq_true (by assumption)
        have q335 : x5_1 < (l1.length : Int) := of_decide_eq_true (by assumption)
        obtain ⟨ad335, A335_9, c335_9, e335, hx335_0, hx335_1, hx335_2, hx335_3, hx335_4, hx335_5, hx335_6, hx335_7, hx335_8, hx335_9, hl335_9, hi335_9⟩ := at_T39 HR1.out x5_1 p335 q335
        have hw335_9 := hx335_9
        have hw335_8 := hx335_8
        have hw335_7 := hx335_7
        have hw335_6 := hx335_6
        have hw335_5 := hx335_5
        have hw335_4 := hx335_4
        have hw335_3 := hx335_3
        have hw335_2 := hx335_2
        have hw335_1 := hx335_1
        have hw335_0 := hx335_0
        cases e335
        replace hx335_0 := (HB.out.cell (bl_ w _ hx335_0)).trans hx335_0
        replace hx335_1 := (HB.out.cell (bl_ w _ hx335_1)).trans hx335_1
        replace hx335_2 := (HB.out.cell (bl_ w _ hx335_2)).trans hx335_2
        replace hx335_3 := (HB.out.cell (bl_ w _ hx335_3)).trans hx335_3
        replace hx335_4 := (HB.out.cell (bl_ w _ hx335_4)).trans hx335_4
        replace hx335_5 := (HB.out.cell (bl_ w _ hx335_5)).trans hx335_5
        replace hx335_6 := (HB.out.cell (bl_ w _ hx335_6)).trans hx335_6
        replace hx335_7 := (HB.out.cell (bl_ w _ hx335_7)).trans hx335_7
        replace hx335_8 := (HB.out.cell (bl_ w _ hx335_8)).trans hx335_8
        replace hx335_9 := (HB.out.cell (bl_ w _ hx335_9)).trans hx335_9
        have HR335_9 := Am hi335_9
        have HC335_9 := Am hl335_9
        clear hi335_9 hl335_9
        replace p335 := eq_true p335
        replace q335 := eq_true q335
        refine start_ (n := 10) (S := fun w' => w'.cell? (ad334.add ((x5_1).toNat * 10)) = some (.int .i64 ((rd_T39 l0 x5_1).f0)) ∧ w'.cell? ⟨(ad334.add ((x5_1).toNat * 10)).block, (ad334.add ((x5_1).toNat * 10)).off + 1, none⟩ = some (.int .i64 ((rd_T39 l0 x5_1).f1)) ∧ w'.cell? ⟨(ad334.add ((x5_1).toNat * 10)).block, (ad334.add ((x5_1).toNat * 10)).off + 2, none⟩ = some (.int .i64 ((rd_T39 l0 x5_1).f2)) ∧ w'.cell? ⟨(ad334.add ((x5_1).toNat * 10)).block, (ad334.add ((x5_1).toNat * 10)).off + 3, none⟩ = some (.int .i64 ((rd_T39 l0 x5_1).f3.f0)) ∧ w'.cell? ⟨(ad334.add ((x5_1).toNat * 10)).block, (ad334.add ((x5_1).toNat * 10)).off + 4, none⟩ = some (.int .i64 ((rd_T39 l0 x5_1).f3.f1)) ∧ w'.cell? ⟨(ad334.add ((x5_1).toNat * 10)).block, (ad334.add ((x5_1).toNat * 10)).off + 5, none⟩ = some (.int .i64 ((rd_T39 l0 x5_1).f3.f2)) ∧ w'.cell? ⟨(ad334.add ((x5_1).toNat * 10)).block, (ad334.add ((x5_1).toNat * 10)).off + 6, none⟩ = some (.int .i64 ((rd_T39 l0 x5_1).f3.f3)) ∧ w'.cell? ⟨(ad334.add ((x5_1).toNat * 10)).block, (ad334.add ((x5_1).toNat * 10)).off + 7, none⟩ = some (.int .i64 ((rd_T39 l0 x5_1).f3.f4)) ∧ w'.cell? ⟨(ad334.add ((x5_1).toNat * 10)).block, (ad334.add ((x5_1).toNat * 10)).off + 8, none⟩ = some (.int .i64 ((rd_T39 l0 x5_1).f4.f0)) ∧ w'.cell? ⟨(ad334.add ((x5_1).toNat * 10)).block, (ad334.add ((x5_1).toNat * 10)).off + 9, none⟩ = some (.slice A334_9 ((rd_T39 l0 x5_1).f4.f1).length c334_9) ∧ w'.cell? (ad335.add ((x5_1).toNat * 10)) = some (.int .i64 ((rd_T39 l1 x5_1).f0)) ∧ w'.cell? ⟨(ad335.add ((x5_1).toNat * 10)).block, (ad335.add ((x5_1).toNat * 10)).off + 1, none⟩ = some (.int .i64 ((rd_T39 l1 x5_1).f1)) ∧ w'.cell? ⟨(ad335.add ((x5_1).toNat * 10)).block, (ad335.add ((x5_1).toNat * 10)).off + 2, none⟩ = some (.int .i64 ((rd_T39 l1 x5_1).f2)) ∧ w'.cell? ⟨(ad335.add ((x5_1).toNat * 10)).block, (ad335.add ((x5_1).toNat * 10)).off + 3, none⟩ = some (.int .i64 ((rd_T39 l1 x5_1).f3.f0)) ∧ w'.cell? ⟨(ad335.add ((x5_1).toNat * 10)).block, (ad335.add ((x5_1).toNat * 10)).off + 4, none⟩ = some (.int .i64 ((rd_T39 l1 x5_1).f3.f1)) ∧ w'.cell? ⟨(ad335.add ((x5_1).toNat * 10)).block, (ad335.add ((x5_1).toNat * 10)).off + 5, none⟩ = some (.int .i64 ((rd_T39 l1 x5_1).f3.f2)) ∧ w'.cell? ⟨(ad335.add ((x5_1).toNat * 10)).block, (ad335.add ((x5_1).toNat * 10)).off + 6, none⟩ = some (.int .i64 ((rd_T39 l1 x5_1).f3.f3)) ∧ w'.cell? ⟨(ad335.add ((x5_1).toNat * 10)).block, (ad335.add ((x5_1).toNat * 10)).off + 7, none⟩ = some (.int .i64 ((rd_T39 l1 x5_1).f3.f4)) ∧ w'.cell? ⟨(ad335.add ((x5_1).toNat * 10)).block, (ad335.add ((x5_1).toNat * 10)).off + 8, none⟩ = some (.int .i64 ((rd_T39 l1 x5_1).f4.f0)) ∧ w'.cell? ⟨(ad335.add ((x5_1).toNat * 10)).block, (ad335.add ((x5_1).toNat * 10)).off + 9, none⟩ = some (.slice A335_9 ((rd_T39 l1 x5_1).f4.f1).length c335_9)) (ds := []) #[false, false, false, false, false, false, false, false, false, false] (by kernel_rfl) rfl rfl ⟨((HB.out.cell (bl_ w _ hw334_0)).trans hw334_0), ((HB.out.cell (bl_ w _ hw334_1)).trans hw334_1), ((HB.out.cell (bl_ w _ hw334_2)).trans hw334_2), ((HB.out.cell (bl_ w _ hw334_3)).trans hw334_3), ((HB.out.cell (bl_ w _ hw334_4)).trans hw334_4), ((HB.out.cell (bl_ w _ hw334_5)).trans hw334_5), ((HB.out.cell (bl_ w _ hw334_6)).trans hw334_6), ((HB.out.cell (bl_ w _ hw334_7)).trans hw334_7), ((HB.out.cell (bl_ w _ hw334_8)).trans hw334_8), ((HB.out.cell (bl_ w _ hw334_9)).trans hw334_9), ((HB.out.cell (bl_ w _ hw335_0)).trans hw335_0), ((HB.out.cell (bl_ w _ hw335_1)).trans hw335_1), ((HB.out.cell (bl_ w _ hw335_2)).trans hw335_2), ((HB.out.cell (bl_ w _ hw335_3)).trans hw335_3), ((HB.out.cell (bl_ w _ hw335_4)).trans hw335_4), ((HB.out.cell (bl_ w _ hw335_5)).trans hw335_5), ((HB.out.cell (bl_ w _ hw335_6)).trans hw335_6), ((HB.out.cell (bl_ w _ hw335_7)).trans hw335_7), ((HB.out.cell (bl_ w _ hw335_8)).trans hw335_8), ((HB.out.cell (bl_ w _ hw335_9)).trans hw335_9)⟩ (fun hHeld => ?_); refine with_tabW laws_eqRowS.tab6 laws_eqRowS.bits6 (fun HT_ HW_ => ?_)
        generalize wr.drew = w9 at HB HR334_9 HR335_9 hx334_0 hx334_1 hx334_2 hx334_3 hx334_4 hx334_5 hx334_6 hx334_7 hx334_8 hx334_9 hx335_0 hx335_1 hx335_2 hx335_3 hx335_4 hx335_5 hx335_6 hx335_7 hx335_8 hx335_9 hHeld ⊢
        refine pure_ (i := 0) (N := some 17) (v := ?_) (a' := ?_) #[true, false, false, false, false, false, false, false, false, false] rfl rfl (any_of HT_.out (by kernel_rfl)) (fun _ _ _ h => h) (Or.inl ⟨by rfl, ?_⟩) ?_ ?_
        rotate_left
        ·intro w'
         go_simp
         with_reducible rfl
        rotate_left
        ·simp only [Act.put, Lt, Lz, Ls, i64_w, i32_w]
         rfl
        refine pure_ (i := 1) (N := some 18) (v := ?_) (a' := ?_) #[true, true, false, false, false, false, false, false, false, false] rfl rfl (any_of HT_.out (by kernel_rfl)) (fun _ _ _ h => h) (Or.inl ⟨by rfl, ?_⟩) ?_ ?_
        rotate_left
        ·intro w'
         go_simp
         with_reducible rfl
        rotate_left
        ·simp only [Act.put, Lt, Lz, Ls, i64_w, i32_w]
         rfl
        refine pure_ (i := 2) (N := some 19) (v := ?_) (a' := ?_) #[true, true, true, false, false, false, false, false, false, false] rfl rfl (any_of HT_.out (by kernel_rfl)) (fun _ _ _ h => h) (Or.inl ⟨by rfl, ?_⟩) ?_ ?_
        rotate_left
        ·intro w'
         go_simp
         with_reducible rfl
        rotate_left
        ·simp only [Act.put, Lt, Lz, Ls, i64_w, i32_w]
         rfl
        refine pure_ (i := 4) (N := some 21) (v := ?_) (a' := ?_) #[true, true, true, false, true, false, false, false, false, false] rfl rfl (any_of HT_.out (by kernel_rfl)) (fun _ _ _ h => h) (Or.inl ⟨by rfl, ?_⟩) ?_ ?_
        rotate_left
        ·intro w'
         go_simp
         with_reducible rfl
        rotate_left
        ·simp only [Act.put, Lt, Lz, Ls, i64_w, i32_w]
         rfl
        refine pure_ (i := 5) (N := some 22) (v := ?_) (a' := ?_) #[true, true, true, false, true, true, false, false, false, false] rfl rfl (any_of HT_.out (by kernel_rfl)) (fun _ _ _ h => h) (Or.inl ⟨by rfl, ?_⟩) ?_ ?_
        rotate_left
        ·intro w'
         go_simp
         with_reducible rfl
        rotate_left
        ·simp only [Act.put, Lt, Lz, Ls, i64_w, i32_w]
         rfl
        refine pure_ (i := 6) (N := some 23) (v := ?_) (a' := ?_) #[true, true, true, false, true, true, true, false, false, false] rfl rfl (any_of HT_.out (by kernel_rfl)) (fun _ _ _ h => h) (Or.inl ⟨by rfl, ?_⟩) ?_ ?_
        rotate_left
        ·intro w'
         go_simp
         with_reducible rfl
        rotate_left
        ·simp only [Act.put, Lt, Lz, Ls, i64_w, i32_w]
         rfl
        refine take_ (i := 3) (N := some 20) (v := ?_) (a' := ?_) #[true, true, true, true, true, true, true, false, false, false] rfl rfl (take_ofW HT_.out HW_.out (by kernel_rfl)) (fun _ _ _ h => h) (Or.inl ⟨by rfl, ?_⟩) hHeld ?_ ?_
        rotate_left
        ·rintro w' ⟨s0, s1, s2, s3, s4, s5, s6, s7, s8, s9, s10, s11, s12, s13, s14, s15, s16, s17, s18, s19⟩
         go_simp
         with_reducible rfl
        rotate_left
        ·simp only [Act.put, Lt, Lz, Ls, i64_w, i32_w]
         rfl
        refine take_ (i := 7) (N := some 24) (v := ?_) (a' := ?_) #[true, true, true, true, true, true, true, true, false, false] rfl rfl (take_ofW HT_.out HW_.out (by kernel_rfl)) (fun _ _ _ h => h) (Or.inl ⟨by rfl, ?_⟩) hHeld ?_ ?_
        rotate_left
        ·rintro w' ⟨s0, s1, s2, s3, s4, s5, s6, s7, s8, s9, s10, s11, s12, s13, s14, s15, s16, s17, s18, s19⟩
         go_simp
         with_reducible rfl
        rotate_left
        ·simp only [Act.put, Lt, Lz, Ls, i64_w, i32_w]
         rfl
        refine one_ (i := 8) (N := some 25) #[true, true, true, true, true, true, true, true, true, false] rfl rfl (one_of HT_.out (by kernel_rfl)) (by decide) (fun K hK => ?_)
        refine goes_ Try.func111 (by kernel_rfl) rfl #[.agg #[.int .i64 ((rd_T39 l0 x5_1).f0), .int .i64 ((rd_T39 l0 x5_1).f1), .int .i64 ((rd_T39 l0 x5_1).f2), .int .i64 ((rd_T39 l0 x5_1).f3.f0), .int .i64 ((rd_T39 l0 x5_1).f3.f1), .int .i64 ((rd_T39 l0 x5_1).f3.f2), .int .i64 ((rd_T39 l0 x5_1).f3.f3), .int .i64 ((rd_T39 l0 x5_1).f3.f4), .int .i64 ((rd_T39 l0 x5_1).f4.f0), .slice A334_9 ((rd_T39 l0 x5_1).f4.f1).length c334_9], .agg #[.int .i64 ((rd_T39 l1 x5_1).f0), .int .i64 ((rd_T39 l1 x5_1).f1), .int .i64 ((rd_T39 l1 x5_1).f2), .int .i64 ((rd_T39 l1 x5_1).f3.f0), .int .i64 ((rd_T39 l1 x5_1).f3.f1), .int .i64 ((rd_T39 l1 x5_1).f3.f2), .int .i64 ((rd_T39 l1 x5_1).f3.f3), .int .i64 ((rd_T39 l1 x5_1).f3.f4), .int .i64 ((rd_T39 l1 x5_1).f4.f0), .slice A335_9 ((rd_T39 l1 x5_1).f4.f1).length c335_9]] (by rfl) rfl rfl (by first | rfl | (simp only [List.map_toArray, List.map_cons, List.map_nil]; first | done | rfl)) ?_
        with_reducible refine (laws_eqRow.calls k1 ((rd_T39 l0 x5_1).f0) ((rd_T39 l0 x5_1).f1) ((rd_T39 l0 x5_1).f2) ((rd_T39 l0 x5_1).f3.f0) ((rd_T39 l0 x5_1).f3.f1) ((rd_T39 l0 x5_1).f3.f2) ((rd_T39 l0 x5_1).f3.f3) ((rd_T39 l0 x5_1).f3.f4) ((rd_T39 l0 x5_1).f4.f0) _ _ ((rd_T39 l0 x5_1).f4.f1) ((rd_T39 l1 x5_1).f0) ((rd_T39 l1 x5_1).f1) ((rd_T39 l1 x5_1).f2) ((rd_T39 l1 x5_1).f3.f0) ((rd_T39 l1 x5_1).f3.f1) ((rd_T39 l1 x5_1).f3.f2) ((rd_T39 l1 x5_1).f3.f3) ((rd_T39 l1 x5_1).f3.f4) ((rd_T39 l1 x5_1).f4.f0) _ _ ((rd_T39 l1 x5_1).f4.f1) true _ ?side1 ?side2 ?side3 ?side4 A7.out).mono ?_
        (case side1 => repeat (first | exact (Cb HR334_9.out HB.out) | (with_reducible refine Kd.C_alloc ?_ _) | (with_reducible refine Kd.C_drewN ?_ _) | (with_reducible refine Kd.C_drew ?_)))
        (case side2 => exact HC334_9.out)
        (case side3 => repeat (first | exact (Cb HR335_9.out HB.out) | (with_reducible refine Kd.C_alloc ?_ _) | (with_reducible refine Kd.C_drewN ?_ _) | (with_reducible refine Kd.C_drew ?_)))
        (case side4 => exact HC335_9.out)
        rintro e w10 ⟨rfl, hb⟩
        refine ⟨_, rfl, ?_⟩
        have n0_ := Am (Bt (by repeat (first | exact HB.out | apply Ba | apply Bn | apply Bd)) hb)
        clear HB
        have HB := n0_
        clear n0_
        (try clear hb)
        (try clear hb2)
        (try clear hk)
        (try clear hi)
        refine hK.out _ _ ⟨((HB.out.cell (bl_ w _ hw334_0)).trans hw334_0), ((HB.out.cell (bl_ w _ hw334_1)).trans hw334_1), ((HB.out.cell (bl_ w _ hw334_2)).trans hw334_2), ((HB.out.cell (bl_ w _ hw334_3)).trans hw334_3), ((HB.out.cell (bl_ w _ hw334_4)).trans hw334_4), ((HB.out.cell (bl_ w _ hw334_5)).trans hw334_5), ((HB.out.cell (bl_ w _ hw334_6)).trans hw334_6), ((HB.out.cell (bl_ w _ hw334_7)).trans hw334_7), ((HB.out.cell (bl_ w _ hw334_8)).trans hw334_8), ((HB.out.cell (bl_ w _ hw334_9)).trans hw334_9), ((HB.out.cell (bl_ w _ hw335_0)).trans hw335_0), ((HB.out.cell (bl_ w _ hw335_1)).trans hw335_1), ((HB.out.cell (bl_ w _ hw335_2)).trans hw335_2), ((HB.out.cell (bl_ w _ hw335_3)).trans hw335_3), ((HB.out.cell (bl_ w _ hw335_4)).trans hw335_4), ((HB.out.cell (bl_ w _ hw335_5)).trans hw335_5), ((HB.out.cell (bl_ w _ hw335_6)).trans hw335_6), ((HB.out.cell (bl_ w _ hw335_7)).trans hw335_7), ((HB.out.cell (bl_ w _ hw335_8)).trans hw335_8), ((HB.out.cell (bl_ w _ hw335_9)).trans hw335_9)⟩ (fun hHeld => ?_)
        clear hK K
        refine norm_ (a' := ?_) ?_ ?_
        rotate_left
        ·show Act.put _ (some 25) _ = _
         simp only [Act.put, Lt, Lz, Ls, i64_w, i32_w]
         rfl
        refine pure_ (i := 9) (N := some 26) (v := ?_) (a' := ?_) #[true, true, true, true, true, true, true, true, true, true] rfl rfl (any_of HT_.out (by kernel_rfl)) (fun _ _ _ h => h) (Or.inl ⟨by rfl, ?_⟩) ?_ ?_
        rotate_left
        ·intro w'
         go_simp
         with_reducible rfl
        rotate_left
        ·simp only [Act.put, Lt, Lz, Ls, i64_w, i32_w]
         rfl
        refine done_ (done_of HT_.out (by kernel_rfl)) ?_
        try go_wp2
        go_roundg k1
        case measure => have := HK1.out; omega
        case rel => exact ⟨(wrap64 (x5_1 + 1)), (by first | rfl | (simp; done) | (simp [*]; done)), H', ⟨by have := HK1.out; omega⟩, ⟨by repeat (first | exact HB.out | apply Ba | apply Bn | apply Bd)⟩⟩
       ·replace c8 := Bool.eq_false_iff.mpr c8
        subst c8
        have H1 : (some false) = some r := by rw [if_neg (show ¬ (false = true) by decide)] at H; exact H
        clear H
        have H := H1
        clear H1
        obtain rfl := Option.some.inj H
        try go_wp2
        have n0_ := Am (Bd HB.out)
        clear HB
        have HB := n0_
        clear n0_
        have p334 : 0 ≤ (x5_1 : Int) := of_decide_eq_true (by assumption)
        have q334 : x5_1 < (l0.length : Int) := of_decide_eq_true (by assumption)
        obtain ⟨ad334, A334_9, c334_9, e334, hx334_0, hx334_1, hx334_2, hx334_3, hx334_4, hx334_5, hx334_6, hx334_7, hx334_8, hx334_9, hl334_9, hi334_9⟩ := at_T39 HR0.out x5_1 p334 q334
        have hw334_9 := hx334_9
        have hw334_8 := hx334_8
        have hw334_7 := hx334_7
        have hw334_6 := hx334_6
        have hw334_5 := hx334_5
        have hw334_4 := hx334_4
        have hw334_3 := hx334_3
        have hw334_2 := hx334_2
        have hw334_1 := hx334_1
        have hw334_0 := hx334_0
        cases e334
        replace hx334_0 := (HB.out.cell (bl_ w _ hx334_0)).trans hx334_0
        replace hx334_1 := (HB.out.cell (bl_ w _ hx334_1)).trans hx334_1
        replace hx334_2 := (HB.out.cell (bl_ w _ hx334_2)).trans hx334_2
        replace hx334_3 := (HB.out.cell (bl_ w _ hx334_3)).trans hx334_3
        replace hx334_4 := (HB.out.cell (bl_ w _ hx334_4)).trans hx334_4
        replace hx334_5 := (HB.out.cell (bl_ w _ hx334_5)).trans hx334_5
        replace hx334_6 := (HB.out.cell (bl_ w _ hx334_6)).trans hx334_6
        replace hx334_7 := (HB.out.cell (bl_ w _ hx334_7)).trans hx334_7
        replace hx334_8 := (HB.out.cell (bl_ w _ hx334_8)).trans hx334_8
        replace hx334_9 := (HB.out.cell (bl_ w _ hx334_9)).trans hx334_9
        have HR334_9 := Am hi334_9
        have HC334_9 := Am hl334_9
        clear hi334_9 hl334_9
        replace p334 := eq_true p334
        replace q334 := eq_true q334
        have p335 : 0 ≤ (x5_1 : Int) := of_decide_eq_true (by assumption)
        have q335 : x5_1 < (l1.length : Int) := of_decide_eq_true (by assumption)
        obtain ⟨ad335, A335_9, c335_9, e335, hx335_0, hx335_1, hx335_2, hx335_3, hx335_4, hx335_5, hx335_6, hx335_7, hx335_8, hx335_9, hl335_9, hi335_9⟩ := at_T39 HR1.out x5_1 p335 q335
        have hw335_9 := hx335_9
        have hw335_8 := hx335_8
        have hw335_7 := hx335_7
        have hw335_6 := hx335_6
        have hw335_5 := hx335_5
        have hw335_4 := hx335_4
        have hw335_3 := hx335_3
        have hw335_2 := hx335_2
        have hw335_1 := hx335_1
        have hw335_0 := hx335_0
        cases e335
        replace hx335_0 := (HB.out.cell (bl_ w _ hx335_0)).trans hx335_0
        replace hx335_1 := (HB.out.cell (bl_ w _ hx335_1)).trans hx335_1
        replace hx335_2 := (HB.out.cell (bl_ w _ hx335_2)).trans hx335_2
        replace hx335_3 := (HB.out.cell (bl_ w _ hx335_3)).trans hx335_3
        replace hx335_4 := (HB.out.cell (bl_ w _ hx335_4)).trans hx335_4
        replace hx335_5 := (HB.out.cell (bl_ w _ hx335_5)).trans hx335_5
        replace hx335_6 := (HB.out.cell (bl_ w _ hx335_6)).trans hx335_6
        replace hx335_7 := (HB.out.cell (bl_ w _ hx335_7)).trans hx335_7
        replace hx335_8 := (HB.out.cell (bl_ w _ hx335_8)).trans hx335_8
        replace hx335_9 := (HB.out.cell (bl_ w _ hx335_9)).trans hx335_9
        have HR335_9 := Am hi335_9
        have HC335_9 := Am hl335_9
        clear hi335_9 hl335_9
        replace p335 := eq_true p335
        replace q335 := eq_true q335
        refine start_ (n := 10) (S := fun w' => w'.cell? (ad334.add ((x5_1).toNat * 10)) = some (.int .i64 ((rd_T39 l0 x5_1).f0)) ∧ w'.cell? ⟨(ad334.add ((x5_1).toNat * 10)).block, (ad334.add ((x5_1).toNat * 10)).off + 1, none⟩ = some (.int .i64 ((rd_T39 l0 x5_1).f1)) ∧ w'.cell? ⟨(ad334.add ((x5_1).toNat * 10)).block, (ad334.add ((x5_1).toNat * 10)).off + 2, none⟩ = some (.int .i64 ((rd_T39 l0 x5_1).f2)) ∧ w'.cell? ⟨(ad334.add ((x5_1).toNat * 10)).block, (ad334.add ((x5_1).toNat * 10)).off + 3, none⟩ = some (.int .i64 ((rd_T39 l0 x5_1).f3.f0)) ∧ w'.cell? ⟨(ad334.add ((x5_1).toNat * 10)).block, (ad334.add ((x5_1).toNat * 10)).off + 4, none⟩ = some (.int .i64 ((rd_T39 l0 x5_1).f3.f1)) ∧ w'.cell? ⟨(ad334.add ((x5_1).toNat * 10)).block, (ad334.add ((x5_1).toNat * 10)).off + 5, none⟩ = some (.int .i64 ((rd_T39 l0 x5_1).f3.f2)) ∧ w'.cell? ⟨(ad334.add ((x5_1).toNat * 10)).block, (ad334.add ((x5_1).toNat * 10)).off + 6, none⟩ = some (.int .i64 ((rd_T39 l0 x5_1).f3.f3)) ∧ w'.cell? ⟨(ad334.add ((x5_1).toNat * 10)).block, (ad334.add ((x5_1).toNat * 10)).off + 7, none⟩ = some (.int .i64 ((rd_T39 l0 x5_1).f3.f4)) ∧ w'.cell? ⟨(ad334.add ((x5_1).toNat * 10)).block, (ad334.add ((x5_1).toNat * 10)).off + 8, none⟩ = some (.int .i64 ((rd_T39 l0 x5_1).f4.f0)) ∧ w'.cell? ⟨(ad334.add ((x5_1).toNat * 10)).block, (ad334.add ((x5_1).toNat * 10)).off + 9, none⟩ = some (.slice A334_9 ((rd_T39 l0 x5_1).f4.f1).length c334_9) ∧ w'.cell? (ad335.add ((x5_1).toNat * 10)) = some (.int .i64 ((rd_T39 l1 x5_1).f0)) ∧ w'.cell? ⟨(ad335.add ((x5_1).toNat * 10)).block, (ad335.add ((x5_1).toNat * 10)).off + 1, none⟩ = some (.int .i64 ((rd_T39 l1 x5_1).f1)) ∧ w'.cell? ⟨(ad335.add ((x5_1).toNat * 10)).block, (ad335.add ((x5_1).toNat * 10)).off + 2, none⟩ = some (.int .i64 ((rd_T39 l1 x5_1).f2)) ∧ w'.cell? ⟨(ad335.add ((x5_1).toNat * 10)).block, (ad335.add ((x5_1).toNat * 10)).off + 3, none⟩ = some (.int .i64 ((rd_T39 l1 x5_1).f3.f0)) ∧ w'.cell? ⟨(ad335.add ((x5_1).toNat * 10)).block, (ad335.add ((x5_1).toNat * 10)).off + 4, none⟩ = some (.int .i64 ((rd_T39 l1 x5_1).f3.f1)) ∧ w'.cell? ⟨(ad335.add ((x5_1).toNat * 10)).block, (ad335.add ((x5_1).toNat * 10)).off + 5, none⟩ = some (.int .i64 ((rd_T39 l1 x5_1).f3.f2)) ∧ w'.cell? ⟨(ad335.add ((x5_1).toNat * 10)).block, (ad335.add ((x5_1).toNat * 10)).off + 6, none⟩ = some (.int .i64 ((rd_T39 l1 x5_1).f3.f3)) ∧ w'.cell? ⟨(ad335.add ((x5_1).toNat * 10)).block, (ad335.add ((x5_1).toNat * 10)).off + 7, none⟩ = some (.int .i64 ((rd_T39 l1 x5_1).f3.f4)) ∧ w'.cell? ⟨(ad335.add ((x5_1).toNat * 10)).block, (ad335.add ((x5_1).toNat * 10)).off + 8, none⟩ = some (.int .i64 ((rd_T39 l1 x5_1).f4.f0)) ∧ w'.cell? ⟨(ad335.add ((x5_1).toNat * 10)).block, (ad335.add ((x5_1).toNat * 10)).off + 9, none⟩ = some (.slice A335_9 ((rd_T39 l1 x5_1).f4.f1).length c335_9)) (ds := []) #[false, false, false, false, false, false, false, false, false, false] (by kernel_rfl) rfl rfl ⟨((HB.out.cell (bl_ w _ hw334_0)).trans hw334_0), ((HB.out.cell (bl_ w _ hw334_1)).trans hw334_1), ((HB.out.cell (bl_ w _ hw334_2)).trans hw334_2), ((HB.out.cell (bl_ w _ hw334_3)).trans hw334_3), ((HB.out.cell (bl_ w _ hw334_4)).trans hw334_4), ((HB.out.cell (bl_ w _ hw334_5)).trans hw334_5), ((HB.out.cell (bl_ w _ hw334_6)).trans hw334_6), ((HB.out.cell (bl_ w _ hw334_7)).trans hw334_7), ((HB.out.cell (bl_ w _ hw334_8)).trans hw334_8), ((HB.out.cell (bl_ w _ hw334_9)).trans hw334_9), ((HB.out.cell (bl_ w _ hw335_0)).trans hw335_0), ((HB.out.cell (bl_ w _ hw335_1)).trans hw335_1), ((HB.out.cell (bl_ w _ hw335_2)).trans hw335_2), ((HB.out.cell (bl_ w _ hw335_3)).trans hw335_3), ((HB.out.cell (bl_ w _ hw335_4)).trans hw335_4), ((HB.out.cell (bl_ w _ hw335_5)).trans hw335_5), ((HB.out.cell (bl_ w _ hw335_6)).trans hw335_6), ((HB.out.cell (bl_ w _ hw335_7)).trans hw335_7), ((HB.out.cell (bl_ w _ hw335_8)).trans hw335_8), ((HB.out.cell (bl_ w _ hw335_9)).trans hw335_9)⟩ (fun hHeld => ?_); refine with_tabW laws_eqRowS.tab6 laws_eqRowS.bits6 (fun HT_ HW_ => ?_)
        generalize wr.drew = w11 at HB HR334_9 HR335_9 hx334_0 hx334_1 hx334_2 hx334_3 hx334_4 hx334_5 hx334_6 hx334_7 hx334_8 hx334_9 hx335_0 hx335_1 hx335_2 hx335_3 hx335_4 hx335_5 hx335_6 hx335_7 hx335_8 hx335_9 hHeld ⊢
        refine pure_ (i := 0) (N := some 17) (v := ?_) (a' := ?_) #[true, false, false, false, false, false, false, false, false, false] rfl rfl (any_of HT_.out (by kernel_rfl)) (fun _ _ _ h => h) (Or.inl ⟨by rfl, ?_⟩) ?_ ?_
        rotate_left
        ·intro w'
         go_simp
         with_reducible rfl
        rotate_left
        ·simp only [Act.put, Lt, Lz, Ls, i64_w, i32_w]
         rfl
        refine pure_ (i := 1) (N := some 18) (v := ?_) (a' := ?_) #[true, true, false, false, false, false, false, false, false, false] rfl rfl (any_of HT_.out (by kernel_rfl)) (fun _ _ _ h => h) (Or.inl ⟨by rfl, ?_⟩) ?_ ?_
        rotate_left
        ·intro w'
         go_simp
         with_reducible rfl
        rotate_left
        ·simp only [Act.put, Lt, Lz, Ls, i64_w, i32_w]
         rfl
        refine pure_ (i := 2) (N := some 19) (v := ?_) (a' := ?_) #[true, true, true, false, false, false, false, false, false, false] rfl rfl (any_of HT_.out (by kernel_rfl)) (fun _ _ _ h => h) (Or.inl ⟨by rfl, ?_⟩) ?_ ?_
        rotate_left
        ·intro w'
         go_simp
         with_reducible rfl
        rotate_left
        ·simp only [Act.put, Lt, Lz, Ls, i64_w, i32_w]
         rfl
        refine pure_ (i := 4) (N := some 21) (v := ?_) (a' := ?_) #[true, true, true, false, true, false, false, false, false, false] rfl rfl (any_of HT_.out (by kernel_rfl)) (fun _ _ _ h => h) (Or.inl ⟨by rfl, ?_⟩) ?_ ?_
        rotate_left
        ·intro w'
         go_simp
         with_reducible rfl
        rotate_left
        ·simp only [Act.put, Lt, Lz, Ls, i64_w, i32_w]
         rfl
        refine pure_ (i := 5) (N := some 22) (v := ?_) (a' := ?_) #[true, true, true, false, true, true, false, false, false, false] rfl rfl (any_of HT_.out (by kernel_rfl)) (fun _ _ _ h => h) (Or.inl ⟨by rfl, ?_⟩) ?_ ?_
        rotate_left
        ·intro w'
         go_simp
         with_reducible rfl
        rotate_left
        ·simp only [Act.put, Lt, Lz, Ls, i64_w, i32_w]
         rfl
        refine pure_ (i := 6) (N := some 23) (v := ?_) (a' := ?_) #[true, true, true, false, true, true, true, false, false, false] rfl rfl (any_of HT_.out (by kernel_rfl)) (fun _ _ _ h => h) (Or.inl ⟨by rfl, ?_⟩) ?_ ?_
        rotate_left
        ·intro w'
         go_simp
         with_reducible rfl
        rotate_left
        ·simp only [Act.put, Lt, Lz, Ls, i64_w, i32_w]
         rfl
        refine take_ (i := 3) (N := some 20) (v := ?_) (a' := ?_) #[true, true, true, true, true, true, true, false, false, false] rfl rfl (take_ofW HT_.out HW_.out (by kernel_rfl)) (fun _ _ _ h => h) (Or.inl ⟨by rfl, ?_⟩) hHeld ?_ ?_
        rotate_left
        ·rintro w' ⟨s0, s1, s2, s3, s4, s5, s6, s7, s8, s9, s10, s11, s12, s13, s14, s15, s16, s17, s18, s19⟩
         go_simp
         with_reducible rfl
        rotate_left
        ·simp only [Act.put, Lt, Lz, Ls, i64_w, i32_w]
         rfl
        refine take_ (i := 7) (N := some 24) (v := ?_) (a' := ?_) #[true, true, true, true, true, true, true, true, false, false] rfl rfl (take_ofW HT_.out HW_.out (by kernel_rfl)) (fun _ _ _ h => h) (Or.inl ⟨by rfl, ?_⟩) hHeld ?_ ?_
        rotate_left
        ·rintro w' ⟨s0, s1, s2, s3, s4, s5, s6, s7, s8, s9, s10, s11, s12, s13, s14, s15, s16, s17, s18, s19⟩
         go_simp
         with_reducible rfl
        rotate_left
        ·simp only [Act.put, Lt, Lz, Ls, i64_w, i32_w]
         rfl
        refine one_ (i := 8) (N := some 25) #[true, true, true, true, true, true, true, true, true, false] rfl rfl (one_of HT_.out (by kernel_rfl)) (by decide) (fun K hK => ?_)
        refine goes_ Try.func111 (by kernel_rfl) rfl #[.agg #[.int .i64 ((rd_T39 l0 x5_1).f0), .int .i64 ((rd_T39 l0 x5_1).f1), .int .i64 ((rd_T39 l0 x5_1).f2), .int .i64 ((rd_T39 l0 x5_1).f3.f0), .int .i64 ((rd_T39 l0 x5_1).f3.f1), .int .i64 ((rd_T39 l0 x5_1).f3.f2), .int .i64 ((rd_T39 l0 x5_1).f3.f3), .int .i64 ((rd_T39 l0 x5_1).f3.f4), .int .i64 ((rd_T39 l0 x5_1).f4.f0), .slice A334_9 ((rd_T39 l0 x5_1).f4.f1).length c334_9], .agg #[.int .i64 ((rd_T39 l1 x5_1).f0), .int .i64 ((rd_T39 l1 x5_1).f1), .int .i64 ((rd_T39 l1 x5_1).f2), .int .i64 ((rd_T39 l1 x5_1).f3.f0), .int .i64 ((rd_T39 l1 x5_1).f3.f1), .int .i64 ((rd_T39 l1 x5_1).f3.f2), .int .i64 ((rd_T39 l1 x5_1).f3.f3), .int .i64 ((rd_T39 l1 x5_1).f3.f4), .int .i64 ((rd_T39 l1 x5_1).f4.f0), .slice A335_9 ((rd_T39 l1 x5_1).f4.f1).length c335_9]] (by rfl) rfl rfl (by first | rfl | (simp only [List.map_toArray, List.map_cons, List.map_nil]; first | done | rfl)) ?_
        with_reducible refine (laws_eqRow.calls k1 ((rd_T39 l0 x5_1).f0) ((rd_T39 l0 x5_1).f1) ((rd_T39 l0 x5_1).f2) ((rd_T39 l0 x5_1).f3.f0) ((rd_T39 l0 x5_1).f3.f1) ((rd_T39 l0 x5_1).f3.f2) ((rd_T39 l0 x5_1).f3.f3) ((rd_T39 l0 x5_1).f3.f4) ((rd_T39 l0 x5_1).f4.f0) _ _ ((rd_T39 l0 x5_1).f4.f1) ((rd_T39 l1 x5_1).f0) ((rd_T39 l1 x5_1).f1) ((rd_T39 l1 x5_1).f2) ((rd_T39 l1 x5_1).f3.f0) ((rd_T39 l1 x5_1).f3.f1) ((rd_T39 l1 x5_1).f3.f2) ((rd_T39 l1 x5_1).f3.f3) ((rd_T39 l1 x5_1).f3.f4) ((rd_T39 l1 x5_1).f4.f0) _ _ ((rd_T39 l1 x5_1).f4.f1) false _ ?side1 ?side2 ?side3 ?side4 A7.out).mono ?_
        (case side1 => repeat (first | exact (Cb HR334_9.out HB.out) | (with_reducible refine Kd.C_alloc ?_ _) | (with_reducible refine Kd.C_drewN ?_ _) | (with_reducible refine Kd.C_drew ?_)))
        (case side2 => exact HC334_9.out)
        (case side3 => repeat (first | exact (Cb HR335_9.out HB.out) | (with_reducible refine Kd.C_alloc ?_ _) | (with_reducible refine Kd.C_drewN ?_ _) | (with_reducible refine Kd.C_drew ?_)))
        (case side4 => exact HC335_9.out)
        rintro e w12 ⟨rfl, hb⟩
        refine ⟨_, rfl, ?_⟩
        have n0_ := Am (Bt (by repeat (first | exact HB.out | apply Ba | apply Bn | apply Bd)) hb)
        clear HB
        have HB := n0_
        clear n0_
        (try clear hb)
        (try clear hb2)
        (try clear hk)
        (try clear hi)
        refine hK.out _ _ ⟨((HB.out.cell (bl_ w _ hw334_0)).trans hw334_0), ((HB.out.cell (bl_ w _ hw334_1)).trans hw334_1), ((HB.out.cell (bl_ w _ hw334_2)).trans hw334_2), ((HB.out.cell (bl_ w _ hw334_3)).trans hw334_3), ((HB.out.cell (bl_ w _ hw334_4)).trans hw334_4), ((HB.out.cell (bl_ w _ hw334_5)).trans hw334_5), ((HB.out.cell (bl_ w _ hw334_6)).trans hw334_6), ((HB.out.cell (bl_ w _ hw334_7)).trans hw334_7), ((HB.out.cell (bl_ w _ hw334_8)).trans hw334_8), ((HB.out.cell (bl_ w _ hw334_9)).trans hw334_9), ((HB.out.cell (bl_ w _ hw335_0)).trans hw335_0), ((HB.out.cell (bl_ w _ hw335_1)).trans hw335_1), ((HB.out.cell (bl_ w _ hw335_2)).trans hw335_2), ((HB.out.cell (bl_ w _ hw335_3)).trans hw335_3), ((HB.out.cell (bl_ w _ hw335_4)).trans hw335_4), ((HB.out.cell (bl_ w _ hw335_5)).trans hw335_5), ((HB.out.cell (bl_ w _ hw335_6)).trans hw335_6), ((HB.out.cell (bl_ w _ hw335_7)).trans hw335_7), ((HB.out.cell (bl_ w _ hw335_8)).trans hw335_8), ((HB.out.cell (bl_ w _ hw335_9)).trans hw335_9)⟩ (fun hHeld => ?_)
        clear hK K
        refine norm_ (a' := ?_) ?_ ?_
        rotate_left
        ·show Act.put _ (some 25) _ = _
         simp only [Act.put, Lt, Lz, Ls, i64_w, i32_w]
         rfl
        refine pure_ (i := 9) (N := some 26) (v := ?_) (a' := ?_) #[true, true, true, true, true, true, true, true, true, true] rfl rfl (any_of HT_.out (by kernel_rfl)) (fun _ _ _ h => h) (Or.inl ⟨by rfl, ?_⟩) ?_ ?_
        rotate_left
        ·intro w'
         go_simp
         with_reducible rfl
        rotate_left
        ·simp only [Act.put, Lt, Lz, Ls, i64_w, i32_w]
         rfl
        refine done_ (done_of HT_.out (by kernel_rfl)) ?_
        try go_wp2
        go_ret
        exact ⟨by first | rfl | (simp [*, errW_none, errW_some] <;> rfl), by repeat (first | exact HB.out | apply Ba | apply Bn | apply Bd)⟩
      ·rw [if_neg c6] at H
       exact absurd H (by simp)
     ·rw [if_neg c5] at H
      exact absurd H (by simp)
    ·rw [if_neg c4] at H
     have c4b0 : decide (x5_1 < (l0.length : Int)) = false := decide_eq_false c4
     clear c4
     obtain rfl := Option.some.inj H
     go_wp2
     go_ret
     exact ⟨by first | rfl | (simp [*, errW_none, errW_some] <;> rfl), by repeat (first | exact HB.out | apply Ba | apply Bn | apply Bd)⟩
 ·rw [if_neg c3] at H
  have c3b0 : ((l0.length : Int) == (l1.length : Int)) = false := beq_eq_false_iff_ne.mpr c3
  have c3b1 : ((l0.length : Int) != (l1.length : Int)) = true := bne_iff_ne.mpr c3
  have c3b2 : (l0.length == l1.length) = false := by first | simpa using c3 | (simp at c3 ⊢; omega)
  obtain rfl := Option.some.inj H
  go_enter Try.func104, Try.ntmps104
  go_wp2
  go_ret
  exact ⟨by first | rfl | (simp [*, errW_none, errW_some] <;> rfl), by repeat (first | exact HB.out | apply Ba | apply Bn | apply Bd)⟩
end Go.Proofs.Ytilmcfdhijdhpaa.QFnExactGoodReplica
