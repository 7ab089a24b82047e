-- Written by a program of this session (wip/mk.py) over the kit's print: Lean checks it.
import Derived.Test.YteecmbfebenjjaaQFnExactOrderOfx0
import Derived.Test.YteecmbfebenjjaaQFnExactOrderOfx3
import Derived.Test.YteecmbfebenjjaaQFnExactOrderOfx4
namespace Go.Proofs.Yteecmbfebenjjaa.QFnExactOrderOf
open Go.Proofs.YteecmbfebenjjaaW.PrintWords.Kd renaming R_alloc → Ra, R_drewN → Rn, R_drew → Rd, S_alloc → Sa, S_drewN → Sn, S_drew → Sd
open Go.Proofs.YteecmbfebenjjaaW.PrintWords renaming below_alloc → Ba, pw_below_drewN → Bn, below_drew1 → Bd, below_size → Bz, below_step → Bt, gate_callee → Gc
open Go.World renaming block_lt_of_cell? → bl_
open Go.Proofs.YteecmbfebenjjaaW.PrintWords.Aside0 renaming mk → Am
open Go.Proofs.YteecmbfebenjjaaW.PrintWords renaming Aside0 → Ad
open Go.RowKit Go.Proofs.YteecmbfebenjjaaW.PrintWords Go.Proofs.YteecmbfebenjjaaW.PrintLast Go.Proofs.YteecmbfebenjjaaW.PrintMore
attribute [local go_sem] max2_int min2_int max_two min_two max_three min_three max_four min_four   -- for this text's walks alone
set_option linter.unusedVariables false
set_option linter.unusedSimpArgs false
theorem own_len (A : Option Addr) (n c m d : Nat) : (Value.slice A n c).ownBlock = (Value.slice A m d).ownBlock := by cases A <;> rfl
mutual
def spec_l5ByKey.l0 : Nat → List Int → List Int → List Int → Int → Int → Option (List Int)
 | 0, _, _, _, _, _ => none
 | k + 1, x1, x5, x10, x11, x12 => if x12 < x11 then (if 0 ≤ x12 then (if x12 < (x10.length : Int) then (spec_l5ByKey.l1 k x1 x5 (rd x10 x12) (x5.length : Int) x10 x11 x12) else (none)) else (none)) else (some x5)
def spec_l5ByKey.l1 : Nat → List Int → List Int → Int → Int → List Int → Int → Int → Option (List Int)
 | 0, _, _, _, _, _, _, _ => none
 | k + 1, x1, x5, x7, x8, x10, x11, x12 => if x8 > 0 then (if 0 ≤ (wrap64 (x8 - 1)) then (if (wrap64 (x8 - 1)) < (x5.length : Int) then (if 0 ≤ (rd x5 (wrap64 (x8 - 1))) then (if (rd x5 (wrap64 (x8 - 1))) < (x1.length : Int) then (if 0 ≤ x7 then (if x7 < (x1.length : Int) then (if (rd x1 (rd x5 (wrap64 (x8 - 1)))) > (rd x1 x7) then (spec_l5ByKey.l1 k x1 x5 x7 (wrap64 (x8 - 1)) x10 x11 x12) else (if 0 ≤ x8 then (if x8 ≤ (x5.length : Int) then ((spec_l1Own.f (x5.drop (x8 : Int).toNat)).bind fun t207 => ((some (x5.take (x8 : Int).toNat : List Int)).bind fun y210 => (if y210.length < 17592186044416 then ((some (y210 ++ [x7] : List Int)).bind fun y213 => (if y213.length + t207.length < 17592186044416 then (spec_l5ByKey.l0 k x1 (y213 ++ t207) x10 x11 (wrap64 (x12 + 1))) else (none))) else (none)))) else (none)) else (none))) else (none)) else (none)) else (none)) else (none)) else (none)) else (none)) else (if 0 ≤ x8 then (if x8 ≤ (x5.length : Int) then ((spec_l1Own.f (x5.drop (x8 : Int).toNat)).bind fun t223 => ((some (x5.take (x8 : Int).toNat : List Int)).bind fun y226 => (if y226.length < 17592186044416 then ((some (y226 ++ [x7] : List Int)).bind fun y229 => (if y229.length + t223.length < 17592186044416 then (spec_l5ByKey.l0 k x1 (y229 ++ t223) x10 x11 (wrap64 (x12 + 1))) else (none))) else (none)))) else (none)) else (none))
end
def spec_l5ByKey.f (k : Nat) (l0 : List Int) (l1 : List Int) : Option (List Int) := spec_l5ByKey.l0 k l1 ([] : List Int) l0 (l0.length : Int) 0
theorem spec_l5ByKey.mono_l : ∀ k, (∀ y0 y1 y2 y3 y4, LeO (spec_l5ByKey.l0 k y0 y1 y2 y3 y4) (spec_l5ByKey.l0 (k + 1) y0 y1 y2 y3 y4)) ∧ (∀ y0 y1 y2 y3 y4 y5 y6, LeO (spec_l5ByKey.l1 k y0 y1 y2 y3 y4 y5 y6) (spec_l5ByKey.l1 (k + 1) y0 y1 y2 y3 y4 y5 y6))
 | 0 => ⟨fun _ _ _ _ _ r h => by simp [spec_l5ByKey.l0] at h, fun _ _ _ _ _ _ _ r h => by simp [spec_l5ByKey.l1] at h⟩
 | k + 1 => by
  obtain ⟨ih0, ih1⟩ := spec_l5ByKey.mono_l k
  refine ⟨?_, ?_⟩
  ·intro y0 y1 y2 y3 y4
   unfold spec_l5ByKey.l0
   repeat' first
   | (with_reducible exact ih0 _ _ _ _ _)
   | (with_reducible exact ih1 _ _ _ _ _ _ _)
   | (with_reducible exact LeO.refl _)
   | (with_reducible exact LeO.none _)
   | (with_reducible refine LeO.ite ?_ ?_)
   | (with_reducible refine LeO.bind ?_ (fun _ => ?_))
   | exact ih0 _ _ _ _ _
   | exact ih1 _ _ _ _ _ _ _
   | exact LeO.none _
   | refine LeO.ite ?_ ?_
   | refine LeO.bind ?_ (fun _ => ?_)
  ·intro y0 y1 y2 y3 y4 y5 y6
   unfold spec_l5ByKey.l1
   repeat' first
   | (with_reducible exact ih0 _ _ _ _ _)
   | (with_reducible exact ih1 _ _ _ _ _ _ _)
   | (with_reducible exact LeO.refl _)
   | (with_reducible exact LeO.none _)
   | (with_reducible refine LeO.ite ?_ ?_)
   | (with_reducible refine LeO.bind ?_ (fun _ => ?_))
   | exact ih0 _ _ _ _ _
   | exact ih1 _ _ _ _ _ _ _
   | exact LeO.none _
   | refine LeO.ite ?_ ?_
   | refine LeO.bind ?_ (fun _ => ?_)
theorem spec_l5ByKey.mono : ∀ a0 a1 k, LeO (spec_l5ByKey.f k a0 a1) (spec_l5ByKey.f (k + 1) a0 a1) := by
 intro a0 a1 k
 obtain ⟨ih0, ih1⟩ := spec_l5ByKey.mono_l k
 unfold spec_l5ByKey.f
 repeat' first
   | (with_reducible exact ih0 _ _ _ _ _)
   | (with_reducible exact ih1 _ _ _ _ _ _ _)
   | (with_reducible exact LeO.refl _)
   | (with_reducible exact LeO.none _)
   | (with_reducible refine LeO.ite ?_ ?_)
   | (with_reducible refine LeO.bind ?_ (fun _ => ?_))
   | exact ih0 _ _ _ _ _
   | exact ih1 _ _ _ _ _ _ _
   | exact LeO.none _
   | refine LeO.ite ?_ ?_
   | refine LeO.bind ?_ (fun _ => ?_)
set_option maxHeartbeats 8000000 in
set_option maxRecDepth 100000 in
theorem spec_l5ByKey.calls (k : Nat) (A0 : Option Addr) (c0 : Nat) (l0 : List Int) (A1 : Option Addr) (c1 : Nat) (l1 : List Int) (r : List Int) (w : World) (hr0 : Kd.C (Kd.int .i64) w A0 l0.length l0) (hc0 : l0.length ≤ c0) (hr1 : Kd.C (Kd.int .i64) w A1 l1.length l1) (hc1 : l1.length ≤ c1) (h : spec_l5ByKey.f k l0 l1 = some r) :
  Calls Try.prog 122 #[.slice A0 l0.length c0, .slice A1 l1.length c1] w fun e w' => ∃ v0_ : Value, e = .returned (v0_) ∧ Kd.R (Kd.int .i64) 3 w' w.heap.size (fun _ => True) v0_ r ∧ Below w.heap.size w w' := by
 have HR0 := Am hr0
 have HC0 := Am hc0
 clear hr0 hc0
 have HR1 := Am hr1
 have HC1 := Am hc1
 clear hr1 hc1
 have HB := Am (Below.refl w.heap.size w)
 have H : (spec_l5ByKey.l0 k l1 ([] : List Int) l0 (l0.length : Int) 0) = some r := h
 clear h
 have H' := Am H
 clear H
 go_enter Try.func122, Try.ntmps122
 go_wp2
 repeat (go_quiet (fail); try go_wp2)
 go_loopg [5, 12] k (fun kq v5 v12 w' => ∃ (x5_1 : List Int) (x12_1 : Int), v12 = .int .i64 x12_1 ∧ Ad (spec_l5ByKey.l0 kq l1 x5_1 l0 (l0.length : Int) x12_1 = some r) ∧ Ad (kq ≤ k) ∧ Ad (Kd.R (Kd.int .i64) 3 w' w.heap.size (fun _ => True) v5 x5_1) ∧ Ad (Below w.heap.size w w'))
 case atStart => exact ⟨(([] : List Int)), (0), (by first | rfl | (simp; done) | (simp [*]; done)), H', ⟨Nat.le_refl _⟩, ⟨by first | exact Kd.R_nil _ _ _ _ _ | exact Kd.N_nil _ _ _ _ _ | exact Kd.V_nil _ _ _ _ _ | exact Kd.Q_nil _ _ _ _ _ | exact Kd.S_nil _ _ _ _ _⟩, ⟨by repeat (first | exact HB.out | apply Ba | apply Bn | apply Bd)⟩⟩
 case round =>
  clear H'
  try clear c1
  try clear p2
  obtain ⟨x5_1, x12_1, rfl, HA, HK1, HO_5, HB⟩ := hrel
  cases gk with
  | zero => exact absurd HA.out (by simp [spec_l5ByKey.l0])
  | succ k1 =>
   have H := HA.out
   clear HA
   simp only [spec_l5ByKey.l0] at H
   by_cases c3 : x12_1 < (l0.length : Int)
   ·rw [if_pos c3] at H
    have c3b0 : decide (x12_1 < (l0.length : Int)) = true := decide_eq_true c3
    clear c3
    by_cases c4 : 0 ≤ x12_1
    ·rw [if_pos c4] at H
     have c4b0 : decide (0 ≤ x12_1) = true := decide_eq_true c4
     clear c4
     by_cases c5 : x12_1 < (l0.length : Int)
     ·rw [if_pos c5] at H
      have c5b0 : decide (x12_1 < (l0.length : Int)) = true := decide_eq_true c5
      clear c5
      have H' := Am H
      clear H
      have p199 : 0 ≤ (x12_1 : Int) := of_decide_eq_true (by assumption)
      have q199 : x12_1 < (l0.length : Int) := of_decide_eq_true (by assumption)
      obtain ⟨ad199, e199, hx199_0⟩ := Kd.at_int HR0.out x12_1 p199 q199
      cases e199
      replace hx199_0 := (HB.out.cell (bl_ w _ hx199_0)).trans hx199_0
      replace p199 := eq_true p199
      replace q199 := eq_true q199
      obtain ⟨Ao6, co6, eo6⟩ := Kd.R_slice HO_5.out
      subst eo6
      go_wp2
      repeat (go_quiet (fail); try go_wp2)
      go_loopg [8] k1 (fun kq v8 w' => ∃ (x8_2 : Int), v8 = .int .i64 x8_2 ∧ Ad (spec_l5ByKey.l1 kq l1 x5_1 (rd l0 x12_1) x8_2 l0 (l0.length : Int) x12_1 = some r) ∧ Ad (kq ≤ k1) ∧ Ad (Kd.R (Kd.int .i64) 3 w' w.heap.size (fun _ => True) (.slice Ao6 x5_1.length co6) x5_1) ∧ Ad (Below w.heap.size w w'))
      case atStart => exact ⟨((x5_1.length : Int)), (by first | rfl | (simp; done) | (simp [*]; done)), H', ⟨Nat.le_refl _⟩, ⟨by (with_reducible repeat (first | apply Ra | apply Rn | apply Rd)); exact HO_5.out⟩, ⟨by repeat (first | exact HB.out | apply Ba | apply Bn | apply Bd)⟩⟩
      case round =>
       clear H'
       try clear c1
       try clear p1
       try clear q1
       try clear hx1
       try clear p2
       try clear c3
       try clear c3b0
       try clear c4
       try clear c4b0
       try clear c5
       try clear c5b0
       try clear hx199_0
       try clear p199
       try clear p2
       try clear q199
       obtain ⟨x8_2, rfl, HA, HK2, HO_5, HB⟩ := hrel
       cases gk with
       | zero => exact absurd HA.out (by simp [spec_l5ByKey.l1])
       | succ k2 =>
        have H := HA.out
        clear HA
        simp only [spec_l5ByKey.l1] at H
        by_cases c7 : x8_2 > 0
        ·rw [if_pos c7] at H
         have c7b0 : decide (0 < x8_2) = true := decide_eq_true c7
         clear c7
         obtain ⟨ji8, hji8⟩ : ∃ j_ : Int, (wrap64 (x8_2 - 1)) = j_ := ⟨_, rfl⟩
         replace H : (if 0 ≤ (ji8) then (if (ji8) < (x5_1.length : Int) then (if 0 ≤ (rd x5_1 (ji8)) then (if (rd x5_1 (ji8)) < (l1.length : Int) then (if 0 ≤ (rd l0 x12_1) then (if (rd l0 x12_1) < (l1.length : Int) then (if (rd l1 (rd x5_1 (ji8))) > (rd l1 (rd l0 x12_1)) then (spec_l5ByKey.l1 k2 l1 x5_1 (rd l0 x12_1) ji8 l0 (l0.length : Int) x12_1) else (if 0 ≤ x8_2 then (if x8_2 ≤ (x5_1.length : Int) then ((spec_l1Own.f (x5_1.drop (x8_2 : Int).toNat)).bind fun t207 => ((some (x5_1.take (x8_2 : Int).toNat : List Int)).bind fun y210 => (if y210.length < 17592186044416 then ((some (y210 ++ [(rd l0 x12_1)] : List Int)).bind fun y213 => (if y213.length + t207.length < 17592186044416 then (spec_l5ByKey.l0 k2 l1 (y213 ++ t207) l0 (l0.length : Int) (wrap64 (x12_1 + 1))) else (none))) else (none)))) else (none)) else (none))) else (none)) else (none)) else (none)) else (none)) else (none)) else (none)) = some r := by first | (rw [hji8] at H; exact H) | (simp only [hji8] at H ⊢; exact H)
         have hji8w : (IntKind.i64.wrap (x8_2 - 1)) = ji8 := (i64_w _).trans hji8
         by_cases c9 : 0 ≤ (ji8)
         ·rw [if_pos c9] at H
          have c9b0 : decide (0 ≤ (ji8)) = true := decide_eq_true c9
          clear c9
          by_cases c10 : (ji8) < (x5_1.length : Int)
          ·rw [if_pos c10] at H
           have c10b0 : decide ((ji8) < (x5_1.length : Int)) = true := decide_eq_true c10
           clear c10
           by_cases c11 : 0 ≤ (rd x5_1 (ji8))
           ·rw [if_pos c11] at H
            have c11b0 : decide (0 ≤ (rd x5_1 (ji8))) = true := decide_eq_true c11
            clear c11
            by_cases c12 : (rd x5_1 (ji8)) < (l1.length : Int)
            ·rw [if_pos c12] at H
             have c12b0 : decide ((rd x5_1 (ji8)) < (l1.length : Int)) = true := decide_eq_true c12
             clear c12
             by_cases c13 : 0 ≤ (rd l0 x12_1)
             ·rw [if_pos c13] at H
              have c13b0 : decide (0 ≤ (rd l0 x12_1)) = true := decide_eq_true c13
              clear c13
              by_cases c14 : (rd l0 x12_1) < (l1.length : Int)
              ·rw [if_pos c14] at H
               have c14b0 : decide ((rd l0 x12_1) < (l1.length : Int)) = true := decide_eq_true c14
               clear c14
               by_cases c15 : (rd l1 (rd x5_1 (ji8))) > (rd l1 (rd l0 x12_1))
               ·rw [if_pos c15] at H
                have c15b0 : decide ((rd l1 (rd l0 x12_1)) < (rd l1 (rd x5_1 (ji8)))) = true := decide_eq_true c15
                clear c15
                have H' := Am H
                clear H
                have p200 : 0 ≤ ((ji8) : Int) := of_decide_eq_true (by assumption)
                have q200 : (ji8) < (x5_1.length : Int) := of_decide_eq_true (by assumption)
                obtain ⟨ad200, e200, hx200_0⟩ := Kd.at_int (Kd.R_reads' HO_5.out).2.2 (ji8) p200 q200
                cases e200
                replace p200 := eq_true p200
                replace q200 := eq_true q200
                have p201 : 0 ≤ ((rd x5_1 (ji8)) : Int) := of_decide_eq_true (by assumption)
                have q201 : (rd x5_1 (ji8)) < (l1.length : Int) := of_decide_eq_true (by assumption)
                obtain ⟨ad201, e201, hx201_0⟩ := Kd.at_int HR1.out (rd x5_1 (ji8)) p201 q201
                cases e201
                replace hx201_0 := (HB.out.cell (bl_ w _ hx201_0)).trans hx201_0
                replace p201 := eq_true p201
                replace q201 := eq_true q201
                have p202 : 0 ≤ ((rd l0 x12_1) : Int) := of_decide_eq_true (by assumption)
                have q202 : (rd l0 x12_1) < (l1.length : Int) := of_decide_eq_true (by assumption)
                obtain ⟨ad202, e202, hx202_0⟩ := Kd.at_int HR1.out (rd l0 x12_1) p202 q202
                obtain rfl : ad201 = ad202 := (by injection e202)
                replace hx202_0 := (HB.out.cell (bl_ w _ hx202_0)).trans hx202_0
                replace p202 := eq_true p202
                replace q202 := eq_true q202
                go_wp2
                repeat (go_quiet (fail); try go_wp2)
                go_roundg k2
                case measure => have := HK1.out; have := HK2.out; omega
                case rel => exact ⟨(ji8), (by first | rfl | (simp; done) | (simp only [← hji8] <;> (first | rfl | simp)) | (simp [*]; done)), H', ⟨by have := HK1.out; have := HK2.out; omega⟩, ⟨by (with_reducible repeat (first | apply Ra | apply Rn | apply Rd)); exact HO_5.out⟩, ⟨by repeat (first | exact HB.out | apply Ba | apply Bn | apply Bd)⟩⟩
               ·rw [if_neg c15] at H
                have c15b0 : decide ((rd l1 (rd l0 x12_1)) < (rd l1 (rd x5_1 (ji8)))) = false := decide_eq_false c15
                clear c15
                by_cases c16 : 0 ≤ x8_2
                ·rw [if_pos c16] at H
                 have c16b0 := eq_true c16
                 have c16b1 : decide (0 ≤ x8_2) = true := decide_eq_true c16
                 clear c16
                 by_cases c17 : x8_2 ≤ (x5_1.length : Int)
                 ·rw [if_pos c17] at H
                  have c17b0 := eq_true c17
                  have c17b1 : decide (x8_2 ≤ (x5_1.length : Int)) = true := decide_eq_true c17
                  clear c17
                  obtain ⟨y203, hy203⟩ : ∃ y_ : List Int, y_ = (x5_1.drop (x8_2 : Int).toNat) := ⟨_, rfl⟩
                  replace H : ((spec_l1Own.f y203).bind fun t207 => ((some (x5_1.take (x8_2 : Int).toNat : List Int)).bind fun y210 => (if y210.length < 17592186044416 then ((some (y210 ++ [(rd l0 x12_1)] : List Int)).bind fun y213 => (if y213.length + t207.length < 17592186044416 then (spec_l5ByKey.l0 k2 l1 (y213 ++ t207) l0 (l0.length : Int) (wrap64 (x12_1 + 1))) else (none))) else (none)))) = some r := by first | (rw [hy203]; with_reducible exact H) | (have H2_ := (Option.bind_some _ _).symm.trans H; rw [hy203]; with_reducible exact H2_) | (have H2_ := (Option.bind_some _ _).symm.trans H; with_reducible exact H2_) | with_reducible exact H | (rw [hy203]; exact H) | exact H
                  have Ny203 := Am hy203
                  clear hy203
                  replace H := Option.bind_eq_some_iff.mp H
                  obtain ⟨t207, A180, H⟩ := H
                  replace H : ((some (x5_1.take (x8_2 : Int).toNat : List Int)).bind fun y210 => (if y210.length < 17592186044416 then ((some (y210 ++ [(rd l0 x12_1)] : List Int)).bind fun y213 => (if y213.length + t207.length < 17592186044416 then (spec_l5ByKey.l0 k2 l1 (y213 ++ t207) l0 (l0.length : Int) (wrap64 (x12_1 + 1))) else (none))) else (none))) = some r := H
                  have A18 := Am A180
                  clear A180
                  have c19b0 := eq_true (of_decide_eq_true (by assumption) : x8_2 ≤ (x5_1.length : Int))
                  obtain ⟨y210, hy210⟩ : ∃ y_ : List Int, y_ = (x5_1.take (x8_2 : Int).toNat) := ⟨_, rfl⟩
                  replace H : (if y210.length < 17592186044416 then ((some (y210 ++ [(rd l0 x12_1)] : List Int)).bind fun y213 => (if y213.length + t207.length < 17592186044416 then (spec_l5ByKey.l0 k2 l1 (y213 ++ t207) l0 (l0.length : Int) (wrap64 (x12_1 + 1))) else (none))) else (none)) = some r := by first | (rw [hy210]; with_reducible exact H) | (have H2_ := (Option.bind_some _ _).symm.trans H; rw [hy210]; with_reducible exact H2_) | (have H2_ := (Option.bind_some _ _).symm.trans H; with_reducible exact H2_) | with_reducible exact H | (rw [hy210]; exact H) | exact H
                  have Ny210 := Am hy210
                  clear hy210
                  by_cases c20 : y210.length < 17592186044416
                  ·rw [if_pos c20] at H
                   have LMc20 := Am c20
                   clear c20
                   obtain ⟨y213, hy213⟩ : ∃ y_ : List Int, y_ = (y210 ++ [(rd l0 x12_1)]) := ⟨_, rfl⟩
                   replace H : (if y213.length + t207.length < 17592186044416 then (spec_l5ByKey.l0 k2 l1 (y213 ++ t207) l0 (l0.length : Int) (wrap64 (x12_1 + 1))) else (none)) = some r := by first | (rw [hy213]; with_reducible exact H) | (have H2_ := (Option.bind_some _ _).symm.trans H; rw [hy213]; with_reducible exact H2_) | (have H2_ := (Option.bind_some _ _).symm.trans H; with_reducible exact H2_) | with_reducible exact H | (rw [hy213]; exact H) | exact H
                   have Ny213 := Am hy213
                   clear hy213
                   by_cases c21 : y213.length + t207.length < 17592186044416
                   ·rw [if_pos c21] at H
                    have LMc21 := Am c21
                    clear c21
                    obtain ⟨y216, hy216⟩ : ∃ y_ : List Int, y_ = (y213 ++ t207) := ⟨_, rfl⟩
                    replace H : (spec_l5ByKey.l0 k2 l1 y216 l0 (l0.length : Int) (wrap64 (x12_1 + 1))) = some r := by first | (rw [hy216]; with_reducible exact H) | (have H2_ := (Option.bind_some _ _).symm.trans H; rw [hy216]; with_reducible exact H2_) | (have H2_ := (Option.bind_some _ _).symm.trans H; with_reducible exact H2_) | with_reducible exact H | (rw [hy216]; exact H) | exact H
                    have Ny216 := Am hy216
                    clear hy216
                    have H' := Am H
                    clear H
                    have p200 : 0 ≤ ((ji8) : Int) := of_decide_eq_true (by assumption)
                    have q200 : (ji8) < (x5_1.length : Int) := of_decide_eq_true (by assumption)
                    obtain ⟨ad200, e200, hx200_0⟩ := Kd.at_int (Kd.R_reads' HO_5.out).2.2 (ji8) p200 q200
                    cases e200
                    replace p200 := eq_true p200
                    replace q200 := eq_true q200
                    have p201 : 0 ≤ ((rd x5_1 (ji8)) : Int) := of_decide_eq_true (by assumption)
                    have q201 : (rd x5_1 (ji8)) < (l1.length : Int) := of_decide_eq_true (by assumption)
                    obtain ⟨ad201, e201, hx201_0⟩ := Kd.at_int HR1.out (rd x5_1 (ji8)) p201 q201
                    cases e201
                    replace hx201_0 := (HB.out.cell (bl_ w _ hx201_0)).trans hx201_0
                    replace p201 := eq_true p201
                    replace q201 := eq_true q201
                    have p202 : 0 ≤ ((rd l0 x12_1) : Int) := of_decide_eq_true (by assumption)
                    have q202 : (rd l0 x12_1) < (l1.length : Int) := of_decide_eq_true (by assumption)
                    obtain ⟨ad202, e202, hx202_0⟩ := Kd.at_int HR1.out (rd l0 x12_1) p202 q202
                    obtain rfl : ad201 = ad202 := (by injection e202)
                    replace hx202_0 := (HB.out.cell (bl_ w _ hx202_0)).trans hx202_0
                    replace p202 := eq_true p202
                    replace q202 := eq_true q202
                    have q22 : (x8_2 : Int) ≤ ((x5_1.length : Int) : Int) := of_decide_eq_true (by assumption)
                    obtain ⟨i022, hi022, _, hsz22, _⟩ := info_parts info3
                    have hroom22 : x5_1.length ≤ co6 := (Kd.R_reads' HO_5.out).2.1
                    have hC22 : Kd.C (Kd.int .i64) _ (some ad200) x5_1.length x5_1 := (Kd.R_reads' HO_5.out).2.2
                    have q022 : (0 : Int) ≤ (x8_2 : Int) := of_decide_eq_true (by assumption)
                    have hcut22 := cut_from (P := Try.prog) 24 3 .i64 Try.underlying24 hi022 1 hsz22 (some ad200) x5_1.length co6 x8_2 q022 q22
                    have hr22 := Kd.C_drop (m := (x8_2 : Int).toNat) (c := co6) hC22 (by omega) hroom22
                    obtain ⟨A22, hA22⟩ : ∃ A1, A1 = (if co6 = (x8_2 : Int).toNat then (some ad200) else ((some ad200) : Option Addr).map (·.add ((x8_2 : Int).toNat * 1))) := ⟨_, rfl⟩
                    obtain ⟨c22, hc22⟩ : ∃ c1, c1 = co6 - (x8_2 : Int).toNat := ⟨_, rfl⟩
                    have hy22 : y203.length = x5_1.length - (x8_2 : Int).toNat := (by rw [Ny203.out, List.length_drop] <;> omega)
                    rw [show (x5_1).drop (x8_2 : Int).toNat = y203 from Ny203.out.symm] at hr22
                    replace hr22 : Kd.C (Kd.int .i64) _ A22 y203.length y203 := (by rw [hA22]; exact hr22)
                    rw [← hy22, ← hA22, ← hc22] at hcut22
                    have HR206 := Am hr22
                    have HC206 := Am (show y203.length ≤ c22 from by rw [hy22, hc22]; exact Nat.sub_le_sub_right hroom22 _)
                    clear hr22 hC22 hroom22 hi022 hsz22 hc22
                    have KY22 := Am hy22
                    have KA22 := Am hA22
                    clear hy22 hA22
                    have KL22 := Am (show (x8_2 : Int).toNat ≤ x5_1.length from by omega)
                    replace q22 := eq_true q22
                    go_wp2_with (first | (go_at_call 133; (with_reducible refine (spec_l1Own.calls _ _ y203 t207 _ ?side1 ?side2 A18.out).mono ?_); (case side1 => repeat (first | exact (by repeat (first | (with_reducible exact HR206.out) | (with_reducible refine Kd.C_alloc ?_ _) | (with_reducible refine Kd.C_drewN ?_ _) | (with_reducible refine Kd.C_drew ?_) | exact HR206.out)) | (with_reducible refine Kd.C_alloc ?_ _) | (with_reducible refine Kd.C_drewN ?_ _) | (with_reducible refine Kd.C_drew ?_))); (case side2 => exact HC206.out); rintro e w23 ⟨v208, rfl, ho0, hb⟩; have n0_ := Am (Kd.R_elder' (by (with_reducible repeat (first | apply Ra | apply Rn | apply Rd)); exact HO_5.out) (Kd.R_base ho0) hb); have n1_ := Am (Kd.R_lower (Kd.R_new' ho0 (Kd.R_lt (by (with_reducible repeat (first | apply Ra | apply Rn | apply Rd)); exact HO_5.out))) (Bz (by repeat (first | exact HB.out | apply Ba | apply Bn | apply Bd)))); have n2_ := Am (Kd.C_below (by repeat (first | (with_reducible exact HR206.out) | (with_reducible refine Kd.C_alloc ?_ _) | (with_reducible refine Kd.C_drewN ?_ _) | (with_reducible refine Kd.C_drew ?_) | exact HR206.out)) hb); have n3_ := Am (Bt (by repeat (first | exact HB.out | apply Ba | apply Bn | apply Bd)) hb); clear HO_5; clear HR206; clear HB; have HO_5 := n0_; have HO209 := n1_; have HR206 := n2_; have HB := n3_; clear n0_ n1_ n2_ n3_; (try clear hb); (try clear hb2); (try clear hk); (try clear hi); (try clear ho0); have q24 : (x8_2 : Int) ≤ ((x5_1.length : Int) : Int) := of_decide_eq_true (by assumption); obtain ⟨i024, hi024, _, hsz24, _⟩ := info_parts info3; have hcut24 := cut_to (P := Try.prog) 24 3 .i64 Try.underlying24 hi024 (some ad200) x5_1.length co6 x8_2 (of_decide_eq_true (by assumption)) q24 (Kd.R_reads' HO_5.out).2.1; have hr24 := Kd.R_take (m := (x8_2 : Int).toNat) HO_5.out (by omega); have hy24 : y210.length = (x8_2 : Int).toNat := (by rw [Ny210.out, List.length_take]; omega); rw [← Ny210.out] at hr24; rw [← hy24] at hr24 hcut24; clear hy24 hi024 hsz24 HO_5; have HO212 := Am hr24; clear hr24; replace q24 := eq_true q24) | ((with_reducible refine gate_builtin (b := .append) (xs := #[.tmp 43, .tmp 45]) rfl ?_); at_builtin; refine Kd.R_append (Kd.int .i64) (w0 := w) w.heap.size rfl (.tmp 43) (.tmp 45) 24 3 (.int .i64 0) 8 rfl Try.underlying24 info3 rfl (by decide) (by omega) (.slice (some ad200) y210.length co6) y210 (rd l0 x12_1) [.int .i64 (rd l0 x12_1)] (fun k_ => some k_ ≠ (v208 : Value).ownBlock) (fun _ => False) rfl rfl ?aP (fun _ hk => hk.elim) ?aF ?aO ?aB ?aS ?aL ?_; (case aP => exact rfl); (case aB => exact (by repeat (first | exact HB.out | apply Ba | apply Bn | apply Bd))); (case aF => exact (fun k_ hk => Kd.fresh' (Kd.R_lt (by (with_reducible repeat (first | apply Ra | apply Rn | apply Rd)); exact HO209.out)) k_ hk)); (case aO => exact (by (with_reducible repeat (first | apply Ra | apply Rn | apply Rd)); exact Kd.R_mono HO212.out (fun _ hk => hk.2))); (case aS => exact (Bz (by repeat (first | exact HB.out | apply Ba | apply Bn | apply Bd)))); (case aL => have := LMc20.out; omega); intro v214 w25 ho hb hg hat; rw [← Ny213.out] at ho; have n0_ := Am (Kd.R_after (ok := (fun _ => True)) (by (with_reducible repeat (first | apply Ra | apply Rn | apply Rd)); first | exact HO209.out | exact Kd.R_mono HO209.out (fun _ hk => ⟨hk.1, fun he_ => hk.2 (he_.trans (own_len ..))⟩)) hg hat); have n1_ := Am (hb); have n2_ := Am (ho); clear HO209; clear HB; clear HO212; have HO209 := n0_; have HB := n1_; have HO215 := n2_; clear n0_ n1_ n2_; clear ho hb hg hat; obtain ⟨Ao27, co27, eo27⟩ := Kd.R_slice HO209.out; subst eo27) | ((with_reducible refine gate_builtin (b := .append) (xs := #[.tmp 46, .tmp 47]) rfl ?_); at_builtin; refine Kd.R_append_rows (Kd.int .i64) (w0 := w) w.heap.size rfl (.tmp 46) (.tmp 47) 24 3 (.int .i64 0) 8 rfl Try.underlying24 info3 rfl (by decide) (by omega) v214 y213 t207 _ _ _ (fun k_ => some k_ ≠ (.slice Ao27 t207.length co27 : Value).ownBlock) (fun _ => False) rfl rfl ?aO ?aR (fun _ _ h => h) (fun _ h => h.elim) ?aF ?aB ?aS ?aL ?_; (case aR => repeat (first | exact (Kd.R_reads' HO209.out).2.2 | (with_reducible refine Kd.C_alloc ?_ _) | (with_reducible refine Kd.C_drewN ?_ _) | (with_reducible refine Kd.C_drew ?_))); (case aB => exact (by repeat (first | exact HB.out | apply Ba | apply Bn | apply Bd))); (case aF => exact (fun k_ hk => Kd.fresh' (Kd.R_lt (by (with_reducible repeat (first | apply Ra | apply Rn | apply Rd)); exact HO209.out)) k_ hk)); (case aO => exact (by (with_reducible repeat (first | apply Ra | apply Rn | apply Rd)); exact HO215.out)); (case aS => exact (Bz (by repeat (first | exact HB.out | apply Ba | apply Bn | apply Bd)))); (case aL => have := LMc21.out; omega); intro v217 w26 ho hb hg hat; rw [← Ny216.out] at ho; have n0_ := Am (Kd.R_after (ok := (fun _ => True)) (by (with_reducible repeat (first | apply Ra | apply Rn | apply Rd)); first | exact HO209.out | exact Kd.R_mono HO209.out (fun _ hk => ⟨hk.1, fun he_ => hk.2 (he_.trans (own_len ..))⟩)) hg hat); have n1_ := Am (hb); have n2_ := Am (ho); clear HO209; clear HB; clear HO215; have HO209 := n0_; have HB := n1_; have HO218 := n2_; clear n0_ n1_ n2_; clear ho hb hg hat))
                    repeat (go_quiet (first | (go_at_call 133; (with_reducible refine (spec_l1Own.calls _ _ y203 t207 _ ?side1 ?side2 A18.out).mono ?_); (case side1 => repeat (first | exact (by repeat (first | (with_reducible exact HR206.out) | (with_reducible refine Kd.C_alloc ?_ _) | (with_reducible refine Kd.C_drewN ?_ _) | (with_reducible refine Kd.C_drew ?_) | exact HR206.out)) | (with_reducible refine Kd.C_alloc ?_ _) | (with_reducible refine Kd.C_drewN ?_ _) | (with_reducible refine Kd.C_drew ?_))); (case side2 => exact HC206.out); rintro e w23 ⟨v208, rfl, ho0, hb⟩; have n0_ := Am (Kd.R_elder' (by (with_reducible repeat (first | apply Ra | apply Rn | apply Rd)); exact HO_5.out) (Kd.R_base ho0) hb); have n1_ := Am (Kd.R_lower (Kd.R_new' ho0 (Kd.R_lt (by (with_reducible repeat (first | apply Ra | apply Rn | apply Rd)); exact HO_5.out))) (Bz (by repeat (first | exact HB.out | apply Ba | apply Bn | apply Bd)))); have n2_ := Am (Kd.C_below (by repeat (first | (with_reducible exact HR206.out) | (with_reducible refine Kd.C_alloc ?_ _) | (with_reducible refine Kd.C_drewN ?_ _) | (with_reducible refine Kd.C_drew ?_) | exact HR206.out)) hb); have n3_ := Am (Bt (by repeat (first | exact HB.out | apply Ba | apply Bn | apply Bd)) hb); clear HO_5; clear HR206; clear HB; have HO_5 := n0_; have HO209 := n1_; have HR206 := n2_; have HB := n3_; clear n0_ n1_ n2_ n3_; (try clear hb); (try clear hb2); (try clear hk); (try clear hi); (try clear ho0); have q24 : (x8_2 : Int) ≤ ((x5_1.length : Int) : Int) := of_decide_eq_true (by assumption); obtain ⟨i024, hi024, _, hsz24, _⟩ := info_parts info3; have hcut24 := cut_to (P := Try.prog) 24 3 .i64 Try.underlying24 hi024 (some ad200) x5_1.length co6 x8_2 (of_decide_eq_true (by assumption)) q24 (Kd.R_reads' HO_5.out).2.1; have hr24 := Kd.R_take (m := (x8_2 : Int).toNat) HO_5.out (by omega); have hy24 : y210.length = (x8_2 : Int).toNat := (by rw [Ny210.out, List.length_take]; omega); rw [← Ny210.out] at hr24; rw [← hy24] at hr24 hcut24; clear hy24 hi024 hsz24 HO_5; have HO212 := Am hr24; clear hr24; replace q24 := eq_true q24) | ((with_reducible refine gate_builtin (b := .append) (xs := #[.tmp 43, .tmp 45]) rfl ?_); at_builtin; refine Kd.R_append (Kd.int .i64) (w0 := w) w.heap.size rfl (.tmp 43) (.tmp 45) 24 3 (.int .i64 0) 8 rfl Try.underlying24 info3 rfl (by decide) (by omega) (.slice (some ad200) y210.length co6) y210 (rd l0 x12_1) [.int .i64 (rd l0 x12_1)] (fun k_ => some k_ ≠ (v208 : Value).ownBlock) (fun _ => False) rfl rfl ?aP (fun _ hk => hk.elim) ?aF ?aO ?aB ?aS ?aL ?_; (case aP => exact rfl); (case aB => exact (by repeat (first | exact HB.out | apply Ba | apply Bn | apply Bd))); (case aF => exact (fun k_ hk => Kd.fresh' (Kd.R_lt (by (with_reducible repeat (first | apply Ra | apply Rn | apply Rd)); exact HO209.out)) k_ hk)); (case aO => exact (by (with_reducible repeat (first | apply Ra | apply Rn | apply Rd)); exact Kd.R_mono HO212.out (fun _ hk => hk.2))); (case aS => exact (Bz (by repeat (first | exact HB.out | apply Ba | apply Bn | apply Bd)))); (case aL => have := LMc20.out; omega); intro v214 w25 ho hb hg hat; rw [← Ny213.out] at ho; have n0_ := Am (Kd.R_after (ok := (fun _ => True)) (by (with_reducible repeat (first | apply Ra | apply Rn | apply Rd)); first | exact HO209.out | exact Kd.R_mono HO209.out (fun _ hk => ⟨hk.1, fun he_ => hk.2 (he_.trans (own_len ..))⟩)) hg hat); have n1_ := Am (hb); have n2_ := Am (ho); clear HO209; clear HB; clear HO212; have HO209 := n0_; have HB := n1_; have HO215 := n2_; clear n0_ n1_ n2_; clear ho hb hg hat; obtain ⟨Ao27, co27, eo27⟩ := Kd.R_slice HO209.out; subst eo27) | ((with_reducible refine gate_builtin (b := .append) (xs := #[.tmp 46, .tmp 47]) rfl ?_); at_builtin; refine Kd.R_append_rows (Kd.int .i64) (w0 := w) w.heap.size rfl (.tmp 46) (.tmp 47) 24 3 (.int .i64 0) 8 rfl Try.underlying24 info3 rfl (by decide) (by omega) v214 y213 t207 _ _ _ (fun k_ => some k_ ≠ (.slice Ao27 t207.length co27 : Value).ownBlock) (fun _ => False) rfl rfl ?aO ?aR (fun _ _ h => h) (fun _ h => h.elim) ?aF ?aB ?aS ?aL ?_; (case aR => repeat (first | exact (Kd.R_reads' HO209.out).2.2 | (with_reducible refine Kd.C_alloc ?_ _) | (with_reducible refine Kd.C_drewN ?_ _) | (with_reducible refine Kd.C_drew ?_))); (case aB => exact (by repeat (first | exact HB.out | apply Ba | apply Bn | apply Bd))); (case aF => exact (fun k_ hk => Kd.fresh' (Kd.R_lt (by (with_reducible repeat (first | apply Ra | apply Rn | apply Rd)); exact HO209.out)) k_ hk)); (case aO => exact (by (with_reducible repeat (first | apply Ra | apply Rn | apply Rd)); exact HO215.out)); (case aS => exact (Bz (by repeat (first | exact HB.out | apply Ba | apply Bn | apply Bd)))); (case aL => have := LMc21.out; omega); intro v217 w26 ho hb hg hat; rw [← Ny216.out] at ho; have n0_ := Am (Kd.R_after (ok := (fun _ => True)) (by (with_reducible repeat (first | apply Ra | apply Rn | apply Rd)); first | exact HO209.out | exact Kd.R_mono HO209.out (fun _ hk => ⟨hk.1, fun he_ => hk.2 (he_.trans (own_len ..))⟩)) hg hat); have n1_ := Am (hb); have n2_ := Am (ho); clear HO209; clear HB; clear HO215; have HO209 := n0_; have HB := n1_; have HO218 := n2_; clear n0_ n1_ n2_; clear ho hb hg hat)); try go_wp2_with (first | (go_at_call 133; (with_reducible refine (spec_l1Own.calls _ _ y203 t207 _ ?side1 ?side2 A18.out).mono ?_); (case side1 => repeat (first | exact (by repeat (first | (with_reducible exact HR206.out) | (with_reducible refine Kd.C_alloc ?_ _) | (with_reducible refine Kd.C_drewN ?_ _) | (with_reducible refine Kd.C_drew ?_) | exact HR206.out)) | (with_reducible refine Kd.C_alloc ?_ _) | (with_reducible refine Kd.C_drewN ?_ _) | (with_reducible refine Kd.C_drew ?_))); (case side2 => exact HC206.out); rintro e w23 ⟨v208, rfl, ho0, hb⟩; have n0_ := Am (Kd.R_elder' (by (with_reducible repeat (first | apply Ra | apply Rn | apply Rd)); exact HO_5.out) (Kd.R_base ho0) hb); have n1_ := Am (Kd.R_lower (Kd.R_new' ho0 (Kd.R_lt (by (with_reducible repeat (first | apply Ra | apply Rn | apply Rd)); exact HO_5.out))) (Bz (by repeat (first | exact HB.out | apply Ba | apply Bn | apply Bd)))); have n2_ := Am (Kd.C_below (by repeat (first | (with_reducible exact HR206.out) | (with_reducible refine Kd.C_alloc ?_ _) | (with_reducible refine Kd.C_drewN ?_ _) | (with_reducible refine Kd.C_drew ?_) | exact HR206.out)) hb); have n3_ := Am (Bt (by repeat (first | exact HB.out | apply Ba | apply Bn | apply Bd)) hb); clear HO_5; clear HR206; clear HB; have HO_5 := n0_; have HO209 := n1_; have HR206 := n2_; have HB := n3_; clear n0_ n1_ n2_ n3_; (try clear hb); (try clear hb2); (try clear hk); (try clear hi); (try clear ho0); have q24 : (x8_2 : Int) ≤ ((x5_1.length : Int) : Int) := of_decide_eq_true (by assumption); obtain ⟨i024, hi024, _, hsz24, _⟩ := info_parts info3; have hcut24 := cut_to (P := Try.prog) 24 3 .i64 Try.underlying24 hi024 (some ad200) x5_1.length co6 x8_2 (of_decide_eq_true (by assumption)) q24 (Kd.R_reads' HO_5.out).2.1; have hr24 := Kd.R_take (m := (x8_2 : Int).toNat) HO_5.out (by omega); have hy24 : y210.length = (x8_2 : Int).toNat := (by rw [Ny210.out, List.length_take]; omega); rw [← Ny210.out] at hr24; rw [← hy24] at hr24 hcut24; clear hy24 hi024 hsz24 HO_5; have HO212 := Am hr24; clear hr24; replace q24 := eq_true q24) | ((with_reducible refine gate_builtin (b := .append) (xs := #[.tmp 43, .tmp 45]) rfl ?_); at_builtin; refine Kd.R_append (Kd.int .i64) (w0 := w) w.heap.size rfl (.tmp 43) (.tmp 45) 24 3 (.int .i64 0) 8 rfl Try.underlying24 info3 rfl (by decide) (by omega) (.slice (some ad200) y210.length co6) y210 (rd l0 x12_1) [.int .i64 (rd l0 x12_1)] (fun k_ => some k_ ≠ (v208 : Value).ownBlock) (fun _ => False) rfl rfl ?aP (fun _ hk => hk.elim) ?aF ?aO ?aB ?aS ?aL ?_; (case aP => exact rfl); (case aB => exact (by repeat (first | exact HB.out | apply Ba | apply Bn | apply Bd))); (case aF => exact (fun k_ hk => Kd.fresh' (Kd.R_lt (by (with_reducible repeat (first | apply Ra | apply Rn | apply Rd)); exact HO209.out)) k_ hk)); (case aO => exact (by (with_reducible repeat (first | apply Ra | apply Rn | apply Rd)); exact Kd.R_mono HO212.out (fun _ hk => hk.2))); (case aS => exact (Bz (by repeat (first | exact HB.out | apply Ba | apply Bn | apply Bd)))); (case aL => have := LMc20.out; omega); intro v214 w25 ho hb hg hat; rw [← Ny213.out] at ho; have n0_ := Am (Kd.R_after (ok := (fun _ => True)) (by (with_reducible repeat (first | apply Ra | apply Rn | apply Rd)); first | exact HO209.out | exact Kd.R_mono HO209.out (fun _ hk => ⟨hk.1, fun he_ => hk.2 (he_.trans (own_len ..))⟩)) hg hat); have n1_ := Am (hb); have n2_ := Am (ho); clear HO209; clear HB; clear HO212; have HO209 := n0_; have HB := n1_; have HO215 := n2_; clear n0_ n1_ n2_; clear ho hb hg hat; obtain ⟨Ao27, co27, eo27⟩ := Kd.R_slice HO209.out; subst eo27) | ((with_reducible refine gate_builtin (b := .append) (xs := #[.tmp 46, .tmp 47]) rfl ?_); at_builtin; refine Kd.R_append_rows (Kd.int .i64) (w0 := w) w.heap.size rfl (.tmp 46) (.tmp 47) 24 3 (.int .i64 0) 8 rfl Try.underlying24 info3 rfl (by decide) (by omega) v214 y213 t207 _ _ _ (fun k_ => some k_ ≠ (.slice Ao27 t207.length co27 : Value).ownBlock) (fun _ => False) rfl rfl ?aO ?aR (fun _ _ h => h) (fun _ h => h.elim) ?aF ?aB ?aS ?aL ?_; (case aR => repeat (first | exact (Kd.R_reads' HO209.out).2.2 | (with_reducible refine Kd.C_alloc ?_ _) | (with_reducible refine Kd.C_drewN ?_ _) | (with_reducible refine Kd.C_drew ?_))); (case aB => exact (by repeat (first | exact HB.out | apply Ba | apply Bn | apply Bd))); (case aF => exact (fun k_ hk => Kd.fresh' (Kd.R_lt (by (with_reducible repeat (first | apply Ra | apply Rn | apply Rd)); exact HO209.out)) k_ hk)); (case aO => exact (by (with_reducible repeat (first | apply Ra | apply Rn | apply Rd)); exact HO215.out)); (case aS => exact (Bz (by repeat (first | exact HB.out | apply Ba | apply Bn | apply Bd)))); (case aL => have := LMc21.out; omega); intro v217 w26 ho hb hg hat; rw [← Ny216.out] at ho; have n0_ := Am (Kd.R_after (ok := (fun _ => True)) (by (with_reducible repeat (first | apply Ra | apply Rn | apply Rd)); first | exact HO209.out | exact Kd.R_mono HO209.out (fun _ hk => ⟨hk.1, fun he_ => hk.2 (he_.trans (own_len ..))⟩)) hg hat); have n1_ := Am (hb); have n2_ := Am (ho); clear HO209; clear HB; clear HO215; have HO209 := n0_; have HB := n1_; have HO218 := n2_; clear n0_ n1_ n2_; clear ho hb hg hat)))
                    go_roundg k2
                    case measure => have := HK1.out; have := HK2.out; omega
                    case rel => exact ⟨(y216), (wrap64 (x12_1 + 1)), (by first | rfl | (simp; done) | (simp [*]; done)), H', ⟨by have := HK1.out; have := HK2.out; omega⟩, ⟨by (with_reducible repeat (first | apply Ra | apply Rn | apply Rd)); exact Kd.R_mono HO218.out (fun _ hk => trivial)⟩, ⟨by repeat (first | exact HB.out | apply Ba | apply Bn | apply Bd)⟩⟩
                   ·rw [if_neg c21] at H
                    exact absurd H (by simp)
                  ·rw [if_neg c20] at H
                   exact absurd H (by simp)
                 ·rw [if_neg c17] at H
                  exact absurd H (by simp)
                ·rw [if_neg c16] at H
                 exact absurd H (by simp)
              ·rw [if_neg c14] at H
               exact absurd H (by simp)
             ·rw [if_neg c13] at H
              exact absurd H (by simp)
            ·rw [if_neg c12] at H
             exact absurd H (by simp)
           ·rw [if_neg c11] at H
            exact absurd H (by simp)
          ·rw [if_neg c10] at H
           exact absurd H (by simp)
         ·rw [if_neg c9] at H
          exact absurd H (by simp)
        ·rw [if_neg c7] at H
         have c7b0 : decide (0 < x8_2) = false := decide_eq_false c7
         clear c7
         by_cases c28 : 0 ≤ x8_2
         ·rw [if_pos c28] at H
          have c28b0 := eq_true c28
          have c28b1 : decide (0 ≤ x8_2) = true := decide_eq_true c28
          clear c28
          by_cases c29 : x8_2 ≤ (x5_1.length : Int)
          ·rw [if_pos c29] at H
           have c29b0 := eq_true c29
           have c29b1 : decide (x8_2 ≤ (x5_1.length : Int)) = true := decide_eq_true c29
           clear c29
           obtain ⟨y219, hy219⟩ : ∃ y_ : List Int, y_ = (x5_1.drop (x8_2 : Int).toNat) := ⟨_, rfl⟩
           replace H : ((spec_l1Own.f y219).bind fun t223 => ((some (x5_1.take (x8_2 : Int).toNat : List Int)).bind fun y226 => (if y226.length < 17592186044416 then ((some (y226 ++ [(rd l0 x12_1)] : List Int)).bind fun y229 => (if y229.length + t223.length < 17592186044416 then (spec_l5ByKey.l0 k2 l1 (y229 ++ t223) l0 (l0.length : Int) (wrap64 (x12_1 + 1))) else (none))) else (none)))) = some r := by first | (rw [hy219]; with_reducible exact H) | (have H2_ := (Option.bind_some _ _).symm.trans H; rw [hy219]; with_reducible exact H2_) | (have H2_ := (Option.bind_some _ _).symm.trans H; with_reducible exact H2_) | with_reducible exact H | (rw [hy219]; exact H) | exact H
           have Ny219 := Am hy219
           clear hy219
           replace H := Option.bind_eq_some_iff.mp H
           obtain ⟨t223, A300, H⟩ := H
           replace H : ((some (x5_1.take (x8_2 : Int).toNat : List Int)).bind fun y226 => (if y226.length < 17592186044416 then ((some (y226 ++ [(rd l0 x12_1)] : List Int)).bind fun y229 => (if y229.length + t223.length < 17592186044416 then (spec_l5ByKey.l0 k2 l1 (y229 ++ t223) l0 (l0.length : Int) (wrap64 (x12_1 + 1))) else (none))) else (none))) = some r := H
           have A30 := Am A300
           clear A300
           have c31b0 := eq_true (of_decide_eq_true (by assumption) : x8_2 ≤ (x5_1.length : Int))
           obtain ⟨y226, hy226⟩ : ∃ y_ : List Int, y_ = (x5_1.take (x8_2 : Int).toNat) := ⟨_, rfl⟩
           replace H : (if y226.length < 17592186044416 then ((some (y226 ++ [(rd l0 x12_1)] : List Int)).bind fun y229 => (if y229.length + t223.length < 17592186044416 then (spec_l5ByKey.l0 k2 l1 (y229 ++ t223) l0 (l0.length : Int) (wrap64 (x12_1 + 1))) else (none))) else (none)) = some r := by first | (rw [hy226]; with_reducible exact H) | (have H2_ := (Option.bind_some _ _).symm.trans H; rw [hy226]; with_reducible exact H2_) | (have H2_ := (Option.bind_some _ _).symm.trans H; with_reducible exact H2_) | with_reducible exact H | (rw [hy226]; exact H) | exact H
           have Ny226 := Am hy226
           clear hy226
           by_cases c32 : y226.length < 17592186044416
           ·rw [if_pos c32] at H
            have LMc32 := Am c32
            clear c32
            obtain ⟨y229, hy229⟩ : ∃ y_ : List Int, y_ = (y226 ++ [(rd l0 x12_1)]) := ⟨_, rfl⟩
            replace H : (if y229.length + t223.length < 17592186044416 then (spec_l5ByKey.l0 k2 l1 (y229 ++ t223) l0 (l0.length : Int) (wrap64 (x12_1 + 1))) else (none)) = some r := by first | (rw [hy229]; with_reducible exact H) | (have H2_ := (Option.bind_some _ _).symm.trans H; rw [hy229]; with_reducible exact H2_) | (have H2_ := (Option.bind_some _ _).symm.trans H; with_reducible exact H2_) | with_reducible exact H | (rw [hy229]; exact H) | exact H
            have Ny229 := Am hy229
            clear hy229
            by_cases c33 : y229.length + t223.length < 17592186044416
            ·rw [if_pos c33] at H
             have LMc33 := Am c33
             clear c33
             obtain ⟨y232, hy232⟩ : ∃ y_ : List Int, y_ = (y229 ++ t223) := ⟨_, rfl⟩
             replace H : (spec_l5ByKey.l0 k2 l1 y232 l0 (l0.length : Int) (wrap64 (x12_1 + 1))) = some r := by first | (rw [hy232]; with_reducible exact H) | (have H2_ := (Option.bind_some _ _).symm.trans H; rw [hy232]; with_reducible exact H2_) | (have H2_ := (Option.bind_some _ _).symm.trans H; with_reducible exact H2_) | with_reducible exact H | (rw [hy232]; exact H) | exact H
             have Ny232 := Am hy232
             clear hy232
             have H' := Am H
             clear H
             have q34 : (x8_2 : Int) ≤ ((x5_1.length : Int) : Int) := of_decide_eq_true (by assumption)
             obtain ⟨i034, hi034, _, hsz34, _⟩ := info_parts info3
             have hroom34 : x5_1.length ≤ co6 := (Kd.R_reads' HO_5.out).2.1
             have hC34 : Kd.C (Kd.int .i64) _ Ao6 x5_1.length x5_1 := (Kd.R_reads' HO_5.out).2.2
             have q034 : (0 : Int) ≤ (x8_2 : Int) := of_decide_eq_true (by assumption)
             have hcut34 := cut_from (P := Try.prog) 24 3 .i64 Try.underlying24 hi034 1 hsz34 Ao6 x5_1.length co6 x8_2 q034 q34
             have hr34 := Kd.C_drop (m := (x8_2 : Int).toNat) (c := co6) hC34 (by omega) hroom34
             obtain ⟨A34, hA34⟩ : ∃ A1, A1 = (if co6 = (x8_2 : Int).toNat then Ao6 else (Ao6 : Option Addr).map (·.add ((x8_2 : Int).toNat * 1))) := ⟨_, rfl⟩
             obtain ⟨c34, hc34⟩ : ∃ c1, c1 = co6 - (x8_2 : Int).toNat := ⟨_, rfl⟩
             have hy34 : y219.length = x5_1.length - (x8_2 : Int).toNat := (by rw [Ny219.out, List.length_drop] <;> omega)
             rw [show (x5_1).drop (x8_2 : Int).toNat = y219 from Ny219.out.symm] at hr34
             replace hr34 : Kd.C (Kd.int .i64) _ A34 y219.length y219 := (by rw [hA34]; exact hr34)
             rw [← hy34, ← hA34, ← hc34] at hcut34
             have HR222 := Am hr34
             have HC222 := Am (show y219.length ≤ c34 from by rw [hy34, hc34]; exact Nat.sub_le_sub_right hroom34 _)
             clear hr34 hC34 hroom34 hi034 hsz34 hc34
             have KY34 := Am hy34
             have KA34 := Am hA34
             clear hy34 hA34
             have KL34 := Am (show (x8_2 : Int).toNat ≤ x5_1.length from by omega)
             replace q34 := eq_true q34
             go_wp2_with (first | (go_at_call 133; (with_reducible refine (spec_l1Own.calls _ _ y219 t223 _ ?side1 ?side2 A30.out).mono ?_); (case side1 => repeat (first | exact (by repeat (first | (with_reducible exact HR222.out) | (with_reducible refine Kd.C_alloc ?_ _) | (with_reducible refine Kd.C_drewN ?_ _) | (with_reducible refine Kd.C_drew ?_) | exact HR222.out)) | (with_reducible refine Kd.C_alloc ?_ _) | (with_reducible refine Kd.C_drewN ?_ _) | (with_reducible refine Kd.C_drew ?_))); (case side2 => exact HC222.out); rintro e w35 ⟨v224, rfl, ho0, hb⟩; have n0_ := Am (Kd.R_elder' (by (with_reducible repeat (first | apply Ra | apply Rn | apply Rd)); exact HO_5.out) (Kd.R_base ho0) hb); have n1_ := Am (Kd.R_lower (Kd.R_new' ho0 (Kd.R_lt (by (with_reducible repeat (first | apply Ra | apply Rn | apply Rd)); exact HO_5.out))) (Bz (by repeat (first | exact HB.out | apply Ba | apply Bn | apply Bd)))); have n2_ := Am (Kd.C_below (by repeat (first | (with_reducible exact HR222.out) | (with_reducible refine Kd.C_alloc ?_ _) | (with_reducible refine Kd.C_drewN ?_ _) | (with_reducible refine Kd.C_drew ?_) | exact HR222.out)) hb); have n3_ := Am (Bt (by repeat (first | exact HB.out | apply Ba | apply Bn | apply Bd)) hb); clear HO_5; clear HR222; clear HB; have HO_5 := n0_; have HO225 := n1_; have HR222 := n2_; have HB := n3_; clear n0_ n1_ n2_ n3_; (try clear hb); (try clear hb2); (try clear hk); (try clear hi); (try clear ho0); have q36 : (x8_2 : Int) ≤ ((x5_1.length : Int) : Int) := of_decide_eq_true (by assumption); obtain ⟨i036, hi036, _, hsz36, _⟩ := info_parts info3; have hcut36 := cut_to (P := Try.prog) 24 3 .i64 Try.underlying24 hi036 Ao6 x5_1.length co6 x8_2 (of_decide_eq_true (by assumption)) q36 (Kd.R_reads' HO_5.out).2.1; have hr36 := Kd.R_take (m := (x8_2 : Int).toNat) HO_5.out (by omega); have hy36 : y226.length = (x8_2 : Int).toNat := (by rw [Ny226.out, List.length_take]; omega); rw [← Ny226.out] at hr36; rw [← hy36] at hr36 hcut36; clear hy36 hi036 hsz36 HO_5; have HO228 := Am hr36; clear hr36; replace q36 := eq_true q36) | ((with_reducible refine gate_builtin (b := .append) (xs := #[.tmp 43, .tmp 45]) rfl ?_); at_builtin; refine Kd.R_append (Kd.int .i64) (w0 := w) w.heap.size rfl (.tmp 43) (.tmp 45) 24 3 (.int .i64 0) 8 rfl Try.underlying24 info3 rfl (by decide) (by omega) (.slice Ao6 y226.length co6) y226 (rd l0 x12_1) [.int .i64 (rd l0 x12_1)] (fun k_ => some k_ ≠ (v224 : Value).ownBlock) (fun _ => False) rfl rfl ?aP (fun _ hk => hk.elim) ?aF ?aO ?aB ?aS ?aL ?_; (case aP => exact rfl); (case aB => exact (by repeat (first | exact HB.out | apply Ba | apply Bn | apply Bd))); (case aF => exact (fun k_ hk => Kd.fresh' (Kd.R_lt (by (with_reducible repeat (first | apply Ra | apply Rn | apply Rd)); exact HO225.out)) k_ hk)); (case aO => exact (by (with_reducible repeat (first | apply Ra | apply Rn | apply Rd)); exact Kd.R_mono HO228.out (fun _ hk => hk.2))); (case aS => exact (Bz (by repeat (first | exact HB.out | apply Ba | apply Bn | apply Bd)))); (case aL => have := LMc32.out; omega); intro v230 w37 ho hb hg hat; rw [← Ny229.out] at ho; have n0_ := Am (Kd.R_after (ok := (fun _ => True)) (by (with_reducible repeat (first | apply Ra | apply Rn | apply Rd)); first | exact HO225.out | exact Kd.R_mono HO225.out (fun _ hk => ⟨hk.1, fun he_ => hk.2 (he_.trans (own_len ..))⟩)) hg hat); have n1_ := Am (hb); have n2_ := Am (ho); clear HO225; clear HB; clear HO228; have HO225 := n0_; have HB := n1_; have HO231 := n2_; clear n0_ n1_ n2_; clear ho hb hg hat; obtain ⟨Ao39, co39, eo39⟩ := Kd.R_slice HO225.out; subst eo39) | ((with_reducible refine gate_builtin (b := .append) (xs := #[.tmp 46, .tmp 47]) rfl ?_); at_builtin; refine Kd.R_append_rows (Kd.int .i64) (w0 := w) w.heap.size rfl (.tmp 46) (.tmp 47) 24 3 (.int .i64 0) 8 rfl Try.underlying24 info3 rfl (by decide) (by omega) v230 y229 t223 _ _ _ (fun k_ => some k_ ≠ (.slice Ao39 t223.length co39 : Value).ownBlock) (fun _ => False) rfl rfl ?aO ?aR (fun _ _ h => h) (fun _ h => h.elim) ?aF ?aB ?aS ?aL ?_; (case aR => repeat (first | exact (Kd.R_reads' HO225.out).2.2 | (with_reducible refine Kd.C_alloc ?_ _) | (with_reducible refine Kd.C_drewN ?_ _) | (with_reducible refine Kd.C_drew ?_))); (case aB => exact (by repeat (first | exact HB.out | apply Ba | apply Bn | apply Bd))); (case aF => exact (fun k_ hk => Kd.fresh' (Kd.R_lt (by (with_reducible repeat (first | apply Ra | apply Rn | apply Rd)); exact HO225.out)) k_ hk)); (case aO => exact (by (with_reducible repeat (first | apply Ra | apply Rn | apply Rd)); exact HO231.out)); (case aS => exact (Bz (by repeat (first | exact HB.out | apply Ba | apply Bn | apply Bd)))); (case aL => have := LMc33.out; omega); intro v233 w38 ho hb hg hat; rw [← Ny232.out] at ho; have n0_ := Am (Kd.R_after (ok := (fun _ => True)) (by (with_reducible repeat (first | apply Ra | apply Rn | apply Rd)); first | exact HO225.out | exact Kd.R_mono HO225.out (fun _ hk => ⟨hk.1, fun he_ => hk.2 (he_.trans (own_len ..))⟩)) hg hat); have n1_ := Am (hb); have n2_ := Am (ho); clear HO225; clear HB; clear HO231; have HO225 := n0_; have HB := n1_; have HO234 := n2_; clear n0_ n1_ n2_; clear ho hb hg hat))
             repeat (go_quiet (first | (go_at_call 133; (with_reducible refine (spec_l1Own.calls _ _ y219 t223 _ ?side1 ?side2 A30.out).mono ?_); (case side1 => repeat (first | exact (by repeat (first | (with_reducible exact HR222.out) | (with_reducible refine Kd.C_alloc ?_ _) | (with_reducible refine Kd.C_drewN ?_ _) | (with_reducible refine Kd.C_drew ?_) | exact HR222.out)) | (with_reducible refine Kd.C_alloc ?_ _) | (with_reducible refine Kd.C_drewN ?_ _) | (with_reducible refine Kd.C_drew ?_))); (case side2 => exact HC222.out); rintro e w35 ⟨v224, rfl, ho0, hb⟩; have n0_ := Am (Kd.R_elder' (by (with_reducible repeat (first | apply Ra | apply Rn | apply Rd)); exact HO_5.out) (Kd.R_base ho0) hb); have n1_ := Am (Kd.R_lower (Kd.R_new' ho0 (Kd.R_lt (by (with_reducible repeat (first | apply Ra | apply Rn | apply Rd)); exact HO_5.out))) (Bz (by repeat (first | exact HB.out | apply Ba | apply Bn | apply Bd)))); have n2_ := Am (Kd.C_below (by repeat (first | (with_reducible exact HR222.out) | (with_reducible refine Kd.C_alloc ?_ _) | (with_reducible refine Kd.C_drewN ?_ _) | (with_reducible refine Kd.C_drew ?_) | exact HR222.out)) hb); have n3_ := Am (Bt (by repeat (first | exact HB.out | apply Ba | apply Bn | apply Bd)) hb); clear HO_5; clear HR222; clear HB; have HO_5 := n0_; have HO225 := n1_; have HR222 := n2_; have HB := n3_; clear n0_ n1_ n2_ n3_; (try clear hb); (try clear hb2); (try clear hk); (try clear hi); (try clear ho0); have q36 : (x8_2 : Int) ≤ ((x5_1.length : Int) : Int) := of_decide_eq_true (by assumption); obtain ⟨i036, hi036, _, hsz36, _⟩ := info_parts info3; have hcut36 := cut_to (P := Try.prog) 24 3 .i64 Try.underlying24 hi036 Ao6 x5_1.length co6 x8_2 (of_decide_eq_true (by assumption)) q36 (Kd.R_reads' HO_5.out).2.1; have hr36 := Kd.R_take (m := (x8_2 : Int).toNat) HO_5.out (by omega); have hy36 : y226.length = (x8_2 : Int).toNat := (by rw [Ny226.out, List.length_take]; omega); rw [← Ny226.out] at hr36; rw [← hy36] at hr36 hcut36; clear hy36 hi036 hsz36 HO_5; have HO228 := Am hr36; clear hr36; replace q36 := eq_true q36) | ((with_reducible refine gate_builtin (b := .append) (xs := #[.tmp 43, .tmp 45]) rfl ?_); at_builtin; refine Kd.R_append (Kd.int .i64) (w0 := w) w.heap.size rfl (.tmp 43) (.tmp 45) 24 3 (.int .i64 0) 8 rfl Try.underlying24 info3 rfl (by decide) (by omega) (.slice Ao6 y226.length co6) y226 (rd l0 x12_1) [.int .i64 (rd l0 x12_1)] (fun k_ => some k_ ≠ (v224 : Value).ownBlock) (fun _ => False) rfl rfl ?aP (fun _ hk => hk.elim) ?aF ?aO ?aB ?aS ?aL ?_; (case aP => exact rfl); (case aB => exact (by repeat (first | exact HB.out | apply Ba | apply Bn | apply Bd))); (case aF => exact (fun k_ hk => Kd.fresh' (Kd.R_lt (by (with_reducible repeat (first | apply Ra | apply Rn | apply Rd)); exact HO225.out)) k_ hk)); (case aO => exact (by (with_reducible repeat (first | apply Ra | apply Rn | apply Rd)); exact Kd.R_mono HO228.out (fun _ hk => hk.2))); (case aS => exact (Bz (by repeat (first | exact HB.out | apply Ba | apply Bn | apply Bd)))); (case aL => have := LMc32.out; omega); intro v230 w37 ho hb hg hat; rw [← Ny229.out] at ho; have n0_ := Am (Kd.R_after (ok := (fun _ => True)) (by (with_reducible repeat (first | apply Ra | apply Rn | apply Rd)); first | exact HO225.out | exact Kd.R_mono HO225.out (fun _ hk => ⟨hk.1, fun he_ => hk.2 (he_.trans (own_len ..))⟩)) hg hat); have n1_ := Am (hb); have n2_ := Am (ho); clear HO225; clear HB; clear HO228; have HO225 := n0_; have HB := n1_; have HO231 := n2_; clear n0_ n1_ n2_; clear ho hb hg hat; obtain ⟨Ao39, co39, eo39⟩ := Kd.R_slice HO225.out; subst eo39) | ((with_reducible refine gate_builtin (b := .append) (xs := #[.tmp 46, .tmp 47]) rfl ?_); at_builtin; refine Kd.R_append_rows (Kd.int .i64) (w0 := w) w.heap.size rfl (.tmp 46) (.tmp 47) 24 3 (.int .i64 0) 8 rfl Try.underlying24 info3 rfl (by decide) (by omega) v230 y229 t223 _ _ _ (fun k_ => some k_ ≠ (.slice Ao39 t223.length co39 : Value).ownBlock) (fun _ => False) rfl rfl ?aO ?aR (fun _ _ h => h) (fun _ h => h.elim) ?aF ?aB ?aS ?aL ?_; (case aR => repeat (first | exact (Kd.R_reads' HO225.out).2.2 | (with_reducible refine Kd.C_alloc ?_ _) | (with_reducible refine Kd.C_drewN ?_ _) | (with_reducible refine Kd.C_drew ?_))); (case aB => exact (by repeat (first | exact HB.out | apply Ba | apply Bn | apply Bd))); (case aF => exact (fun k_ hk => Kd.fresh' (Kd.R_lt (by (with_reducible repeat (first | apply Ra | apply Rn | apply Rd)); exact HO225.out)) k_ hk)); (case aO => exact (by (with_reducible repeat (first | apply Ra | apply Rn | apply Rd)); exact HO231.out)); (case aS => exact (Bz (by repeat (first | exact HB.out | apply Ba | apply Bn | apply Bd)))); (case aL => have := LMc33.out; omega); intro v233 w38 ho hb hg hat; rw [← Ny232.out] at ho; have n0_ := Am (Kd.R_after (ok := (fun _ => True)) (by (with_reducible repeat (first | apply Ra | apply Rn | apply Rd)); first | exact HO225.out | exact Kd.R_mono HO225.out (fun _ hk => ⟨hk.1, fun he_ => hk.2 (he_.trans (own_len ..))⟩)) hg hat); have n1_ := Am (hb); have n2_ := Am (ho); clear HO225; clear HB; clear HO231; have HO225 := n0_; have HB := n1_; have HO234 := n2_; clear n0_ n1_ n2_; clear ho hb hg hat)); try go_wp2_with (first | (go_at_call 133; (with_reducible refine (spec_l1Own.calls _ _ y219 t223 _ ?side1 ?side2 A30.out).mono ?_); (case side1 => repeat (first | exact (by repeat (first | (with_reducible exact HR222.out) | (with_reducible refine Kd.C_alloc ?_ _) | (with_reducible refine Kd.C_drewN ?_ _) | (with_reducible refine Kd.C_drew ?_) | exact HR222.out)) | (with_reducible refine Kd.C_alloc ?_ _) | (with_reducible refine Kd.C_drewN ?_ _) | (with_reducible refine Kd.C_drew ?_))); (case side2 => exact HC222.out); rintro e w35 ⟨v224, rfl, ho0, hb⟩; have n0_ := Am (Kd.R_elder' (by (with_reducible repeat (first | apply Ra | apply Rn | apply Rd)); exact HO_5.out) (Kd.R_base ho0) hb); have n1_ := Am (Kd.R_lower (Kd.R_new' ho0 (Kd.R_lt (by (with_reducible repeat (first | apply Ra | apply Rn | apply Rd)); exact HO_5.out))) (Bz (by repeat (first | exact HB.out | apply Ba | apply Bn | apply Bd)))); have n2_ := Am (Kd.C_below (by repeat (first | (with_reducible exact HR222.out) | (with_reducible refine Kd.C_alloc ?_ _) | (with_reducible refine Kd.C_drewN ?_ _) | (with_reducible refine Kd.C_drew ?_) | exact HR222.out)) hb); have n3_ := Am (Bt (by repeat (first | exact HB.out | apply Ba | apply Bn | apply Bd)) hb); clear HO_5; clear HR222; clear HB; have HO_5 := n0_; have HO225 := n1_; have HR222 := n2_; have HB := n3_; clear n0_ n1_ n2_ n3_; (try clear hb); (try clear hb2); (try clear hk); (try clear hi); (try clear ho0); have q36 : (x8_2 : Int) ≤ ((x5_1.length : Int) : Int) := of_decide_eq_true (by assumption); obtain ⟨i036, hi036, _, hsz36, _⟩ := info_parts info3; have hcut36 := cut_to (P := Try.prog) 24 3 .i64 Try.underlying24 hi036 Ao6 x5_1.length co6 x8_2 (of_decide_eq_true (by assumption)) q36 (Kd.R_reads' HO_5.out).2.1; have hr36 := Kd.R_take (m := (x8_2 : Int).toNat) HO_5.out (by omega); have hy36 : y226.length = (x8_2 : Int).toNat := (by rw [Ny226.out, List.length_take]; omega); rw [← Ny226.out] at hr36; rw [← hy36] at hr36 hcut36; clear hy36 hi036 hsz36 HO_5; have HO228 := Am hr36; clear hr36; replace q36 := eq_true q36) | ((with_reducible refine gate_builtin (b := .append) (xs := #[.tmp 43, .tmp 45]) rfl ?_); at_builtin; refine Kd.R_append (Kd.int .i64) (w0 := w) w.heap.size rfl (.tmp 43) (.tmp 45) 24 3 (.int .i64 0) 8 rfl Try.underlying24 info3 rfl (by decide) (by omega) (.slice Ao6 y226.length co6) y226 (rd l0 x12_1) [.int .i64 (rd l0 x12_1)] (fun k_ => some k_ ≠ (v224 : Value).ownBlock) (fun _ => False) rfl rfl ?aP (fun _ hk => hk.elim) ?aF ?aO ?aB ?aS ?aL ?_; (case aP => exact rfl); (case aB => exact (by repeat (first | exact HB.out | apply Ba | apply Bn | apply Bd))); (case aF => exact (fun k_ hk => Kd.fresh' (Kd.R_lt (by (with_reducible repeat (first | apply Ra | apply Rn | apply Rd)); exact HO225.out)) k_ hk)); (case aO => exact (by (with_reducible repeat (first | apply Ra | apply Rn | apply Rd)); exact Kd.R_mono HO228.out (fun _ hk => hk.2))); (case aS => exact (Bz (by repeat (first | exact HB.out | apply Ba | apply Bn | apply Bd)))); (case aL => have := LMc32.out; omega); intro v230 w37 ho hb hg hat; rw [← Ny229.out] at ho; have n0_ := Am (Kd.R_after (ok := (fun _ => True)) (by (with_reducible repeat (first | apply Ra | apply Rn | apply Rd)); first | exact HO225.out | exact Kd.R_mono HO225.out (fun _ hk => ⟨hk.1, fun he_ => hk.2 (he_.trans (own_len ..))⟩)) hg hat); have n1_ := Am (hb); have n2_ := Am (ho); clear HO225; clear HB; clear HO228; have HO225 := n0_; have HB := n1_; have HO231 := n2_; clear n0_ n1_ n2_; clear ho hb hg hat; obtain ⟨Ao39, co39, eo39⟩ := Kd.R_slice HO225.out; subst eo39) | ((with_reducible refine gate_builtin (b := .append) (xs := #[.tmp 46, .tmp 47]) rfl ?_); at_builtin; refine Kd.R_append_rows (Kd.int .i64) (w0 := w) w.heap.size rfl (.tmp 46) (.tmp 47) 24 3 (.int .i64 0) 8 rfl Try.underlying24 info3 rfl (by decide) (by omega) v230 y229 t223 _ _ _ (fun k_ => some k_ ≠ (.slice Ao39 t223.length co39 : Value).ownBlock) (fun _ => False) rfl rfl ?aO ?aR (fun _ _ h => h) (fun _ h => h.elim) ?aF ?aB ?aS ?aL ?_; (case aR => repeat (first | exact (Kd.R_reads' HO225.out).2.2 | (with_reducible refine Kd.C_alloc ?_ _) | (with_reducible refine Kd.C_drewN ?_ _) | (with_reducible refine Kd.C_drew ?_))); (case aB => exact (by repeat (first | exact HB.out | apply Ba | apply Bn | apply Bd))); (case aF => exact (fun k_ hk => Kd.fresh' (Kd.R_lt (by (with_reducible repeat (first | apply Ra | apply Rn | apply Rd)); exact HO225.out)) k_ hk)); (case aO => exact (by (with_reducible repeat (first | apply Ra | apply Rn | apply Rd)); exact HO231.out)); (case aS => exact (Bz (by repeat (first | exact HB.out | apply Ba | apply Bn | apply Bd)))); (case aL => have := LMc33.out; omega); intro v233 w38 ho hb hg hat; rw [← Ny232.out] at ho; have n0_ := Am (Kd.R_after (ok := (fun _ => True)) (by (with_reducible repeat (first | apply Ra | apply Rn | apply Rd)); first | exact HO225.out | exact Kd.R_mono HO225.out (fun _ hk => ⟨hk.1, fun he_ => hk.2 (he_.trans (own_len ..))⟩)) hg hat); have n1_ := Am (hb); have n2_ := Am (ho); clear HO225; clear HB; clear HO231; have HO225 := n0_; have HB := n1_; have HO234 := n2_; clear n0_ n1_ n2_; clear ho hb hg hat)))
             go_roundg k2
             case measure => have := HK1.out; have := HK2.out; omega
             case rel => exact ⟨(y232), (wrap64 (x12_1 + 1)), (by first | rfl | (simp; done) | (simp [*]; done)), H', ⟨by have := HK1.out; have := HK2.out; omega⟩, ⟨by (with_reducible repeat (first | apply Ra | apply Rn | apply Rd)); exact Kd.R_mono HO234.out (fun _ hk => trivial)⟩, ⟨by repeat (first | exact HB.out | apply Ba | apply Bn | apply Bd)⟩⟩
            ·rw [if_neg c33] at H
             exact absurd H (by simp)
           ·rw [if_neg c32] at H
            exact absurd H (by simp)
          ·rw [if_neg c29] at H
           exact absurd H (by simp)
         ·rw [if_neg c28] at H
          exact absurd H (by simp)
     ·rw [if_neg c5] at H
      exact absurd H (by simp)
    ·rw [if_neg c4] at H
     exact absurd H (by simp)
   ·rw [if_neg c3] at H
    have c3b0 : decide (x12_1 < (l0.length : Int)) = false := decide_eq_false c3
    clear c3
    obtain rfl := Option.some.inj H
    go_wp2
    repeat (go_quiet (fail); try go_wp2)
    go_ret
    exact ⟨_, by first | rfl | (simp [*, errW_none, errW_some] <;> rfl), by (with_reducible repeat (first | apply Ra | apply Rn | apply Rd)); exact HO_5.out, by repeat (first | exact HB.out | apply Ba | apply Bn | apply Bd)⟩
def spec_l5Order.l0 : Nat → List Int → List Int → List (List Int) → Int → Int → Option (List Int)
 | 0, _, _, _, _, _ => none
 | k + 1, x1, x5, x9, x10, x11 => if x11 < x10 then (if 0 ≤ x11 then (if x11 < (x9.length : Int) then ((spec_l5ByKey.f k (rd_L1 x9 x11) x1).bind fun t239 => (if x5.length + t239.length < 17592186044416 then (spec_l5Order.l0 k x1 (x5 ++ t239) x9 x10 (wrap64 (x11 + 1))) else (none))) else (none)) else (none)) else (some x5)
def spec_l5Order.f (k : Nat) (l0 : List (List Int)) (l1 : List Int) : Option (List Int) := (spec_l5Components.f k l0).bind fun t235 => (spec_l5Order.l0 k l1 ([] : List Int) t235 (t235.length : Int) 0)
theorem spec_l5Order.mono_l : ∀ k, (∀ y0 y1 y2 y3 y4, LeO (spec_l5Order.l0 k y0 y1 y2 y3 y4) (spec_l5Order.l0 (k + 1) y0 y1 y2 y3 y4))
 | 0 => fun _ _ _ _ _ r h => by simp [spec_l5Order.l0] at h
 | k + 1 => by
  have ih0 := spec_l5Order.mono_l k
  ·intro y0 y1 y2 y3 y4
   unfold spec_l5Order.l0
   repeat' first
   | (with_reducible exact ih0 _ _ _ _ _)
   | (with_reducible exact spec_l5ByKey.mono _ _ _)
   | (with_reducible exact spec_l5Components.mono _ _)
   | (with_reducible exact LeO.refl _)
   | (with_reducible exact LeO.none _)
   | (with_reducible refine LeO.ite ?_ ?_)
   | (with_reducible refine LeO.bind ?_ (fun _ => ?_))
   | exact ih0 _ _ _ _ _
   | exact spec_l5ByKey.mono _ _ _
   | exact spec_l5Components.mono _ _
   | exact LeO.none _
   | refine LeO.ite ?_ ?_
   | refine LeO.bind ?_ (fun _ => ?_)
theorem spec_l5Order.mono : ∀ a0 a1 k, LeO (spec_l5Order.f k a0 a1) (spec_l5Order.f (k + 1) a0 a1) := by
 intro a0 a1 k
 have ih0 := spec_l5Order.mono_l k
 unfold spec_l5Order.f
 repeat' first
   | (with_reducible exact ih0 _ _ _ _ _)
   | (with_reducible exact spec_l5ByKey.mono _ _ _)
   | (with_reducible exact spec_l5Components.mono _ _)
   | (with_reducible exact LeO.refl _)
   | (with_reducible exact LeO.none _)
   | (with_reducible refine LeO.ite ?_ ?_)
   | (with_reducible refine LeO.bind ?_ (fun _ => ?_))
   | exact ih0 _ _ _ _ _
   | exact spec_l5ByKey.mono _ _ _
   | exact spec_l5Components.mono _ _
   | exact LeO.none _
   | refine LeO.ite ?_ ?_
   | refine LeO.bind ?_ (fun _ => ?_)
set_option maxHeartbeats 8000000 in
set_option maxRecDepth 100000 in
theorem spec_l5Order.calls (k : Nat) (A0 : Option Addr) (c0 : Nat) (l0 : List (List Int)) (A1 : Option Addr) (c1 : Nat) (l1 : List Int) (r : List Int) (w : World) (hr0 : Kd.C (Kd.slice 3 (Kd.int .i64)) w A0 l0.length l0) (hc0 : l0.length ≤ c0) (hr1 : Kd.C (Kd.int .i64) w A1 l1.length l1) (hc1 : l1.length ≤ c1) (h : spec_l5Order.f k l0 l1 = some r) :
  Calls Try.prog 117 #[.slice A0 l0.length c0, .slice A1 l1.length c1] w fun e w' => ∃ v0_ : Value, e = .returned (v0_) ∧ Kd.R (Kd.int .i64) 3 w' w.heap.size (fun _ => True) v0_ r ∧ Below w.heap.size w w' := by
 have HR0 := Am hr0
 have HC0 := Am hc0
 clear hr0 hc0
 have HR1 := Am hr1
 have HC1 := Am hc1
 clear hr1 hc1
 have HB := Am (Below.refl w.heap.size w)
 have H : ((spec_l5Components.f k l0).bind fun t235 => (spec_l5Order.l0 k l1 ([] : List Int) t235 (t235.length : Int) 0)) = some r := h
 clear h
 replace H := Option.bind_eq_some_iff.mp H
 obtain ⟨t235, A30, H⟩ := H
 replace H : (spec_l5Order.l0 k l1 ([] : List Int) t235 (t235.length : Int) 0) = some r := H
 have A3 := Am A30
 clear A30
 have H' := Am H
 clear H
 go_enter Try.func117, Try.ntmps117
 go_wp2_with (first | ((refine Gc (f := 101) rfl ?_); refine goesL_ (some 9) rfl rfl Try.func101 (by kernel_rfl) rfl #[.slice A0 l0.length c0] rfl (by first | rfl | (simp only [List.map_toArray, List.map_cons, List.map_nil]; first | done | rfl)) ?_; (with_reducible refine (spec_l5Components.calls k _ _ l0 t235 _ ?side1 ?side2 A3.out).mono ?_); (case side1 => repeat (first | exact HR0.out | (with_reducible refine Kd.C_alloc ?_ _) | (with_reducible refine Kd.C_drewN ?_ _) | (with_reducible refine Kd.C_drew ?_))); (case side2 => exact HC0.out); rintro e w4 ⟨v236, rfl, ho0, hb⟩; refine ⟨_, rfl, ?_⟩; have n0_ := Am (Kd.S_lower ho0 (Bz (by repeat (first | exact HB.out | apply Ba | apply Bn | apply Bd)))); have n1_ := Am (Bt (by repeat (first | exact HB.out | apply Ba | apply Bn | apply Bd)) hb); clear HB; have HO237 := n0_; have HB := n1_; clear n0_ n1_; (try clear hb); (try clear hb2); (try clear hk); (try clear hi); (try clear ho0); obtain ⟨Ao5, co5, eo5⟩ := Kd.S_slice HO237.out; subst eo5))
 go_loopg [5, 11] k (fun kq v5 v11 w' => ∃ (x5_1 : List Int) (x11_1 : Int), v11 = .int .i64 x11_1 ∧ Ad (spec_l5Order.l0 kq l1 x5_1 t235 (t235.length : Int) x11_1 = some r) ∧ Ad (kq ≤ k) ∧ Ad (Kd.R (Kd.int .i64) 3 w' w.heap.size (fun _ => True) v5 x5_1) ∧ Ad (Kd.S (Kd.slice 3 (Kd.int .i64)) 24 w' w.heap.size (fun k_ => some k_ ≠ (v5 : Value).ownBlock) (.slice Ao5 t235.length co5) t235) ∧ Ad (Below w.heap.size w w'))
 case atStart => exact ⟨(([] : List Int)), (0), (by first | rfl | (simp; done) | (simp [*]; done)), H', ⟨Nat.le_refl _⟩, ⟨by first | exact Kd.R_nil _ _ _ _ _ | exact Kd.N_nil _ _ _ _ _ | exact Kd.V_nil _ _ _ _ _ | exact Kd.Q_nil _ _ _ _ _ | exact Kd.S_nil _ _ _ _ _⟩, ⟨by (with_reducible repeat (first | apply Sa | apply Sn | apply Sd)); exact Kd.S_mono HO237.out (fun _ hk => (by simp [Value.ownBlock]))⟩, ⟨by repeat (first | exact HB.out | apply Ba | apply Bn | apply Bd)⟩⟩
 case round =>
  clear H'
  try clear c1
  try clear p2
  obtain ⟨x5_1, x11_1, rfl, HA, HK1, HO_5, HO_9, HB⟩ := hrel
  cases gk with
  | zero => exact absurd HA.out (by simp [spec_l5Order.l0])
  | succ k1 =>
   have H := HA.out
   clear HA
   simp only [spec_l5Order.l0] at H
   by_cases c6 : x11_1 < (t235.length : Int)
   ·rw [if_pos c6] at H
    have c6b0 : decide (x11_1 < (t235.length : Int)) = true := decide_eq_true c6
    clear c6
    by_cases c7 : 0 ≤ x11_1
    ·rw [if_pos c7] at H
     have c7b0 : decide (0 ≤ x11_1) = true := decide_eq_true c7
     clear c7
     by_cases c8 : x11_1 < (t235.length : Int)
     ·rw [if_pos c8] at H
      have c8b0 : decide (x11_1 < (t235.length : Int)) = true := decide_eq_true c8
      clear c8
      replace H := Option.bind_eq_some_iff.mp H
      obtain ⟨t239, A90, H⟩ := H
      replace H : (if x5_1.length + t239.length < 17592186044416 then (spec_l5Order.l0 k1 l1 (x5_1 ++ t239) t235 (t235.length : Int) (wrap64 (x11_1 + 1))) else (none)) = some r := H
      have A9 := Am A90
      clear A90
      by_cases c10 : x5_1.length + t239.length < 17592186044416
      ·rw [if_pos c10] at H
       have LMc10 := Am c10
       clear c10
       obtain ⟨y242, hy242⟩ : ∃ y_ : List Int, y_ = (x5_1 ++ t239) := ⟨_, rfl⟩
       replace H : (spec_l5Order.l0 k1 l1 y242 t235 (t235.length : Int) (wrap64 (x11_1 + 1))) = some r := by first | (rw [hy242]; with_reducible exact H) | (have H2_ := (Option.bind_some _ _).symm.trans H; rw [hy242]; with_reducible exact H2_) | (have H2_ := (Option.bind_some _ _).symm.trans H; with_reducible exact H2_) | with_reducible exact H | (rw [hy242]; exact H) | exact H
       have Ny242 := Am hy242
       clear hy242
       have H' := Am H
       clear H
       have p238 : 0 ≤ (x11_1 : Int) := of_decide_eq_true (by assumption)
       have q238 : x11_1 < (t235.length : Int) := of_decide_eq_true (by assumption)
       obtain ⟨ad238, A238_0, c238_0, e238, hx238_0, hl238_0, hi238_0⟩ := at_L1 (Kd.S_reads' HO_9.out).2.2 x11_1 p238 q238
       cases e238
       obtain ⟨ce238, hce238, hMe238, hcc238⟩ := Kd.S_get HO_9.out [] x11_1 p238 (by first | exact q238 | exact of_decide_eq_true (by assumption) | (have e_ := (Kd.S_reads' HO_9.out).1; omega))
       obtain ⟨ve238_0, rfl, ge238_0⟩ := hMe238
       have hv238_0 := hcc238 0 _ rfl
       rw [Nat.add_zero, show ((Kd.slice 3 (Kd.int .i64))).sz = 1 from rfl, Nat.mul_one] at hv238_0
       replace hv238_0 := Option.some.inj (hv238_0.symm.trans hx238_0)
       rw [hv238_0] at ge238_0
       have HL238_0 := Am (show Kd.R (Kd.int .i64) 3 _ _ _ _ (rd_L1 t235 x11_1) from ge238_0)
       clear hv238_0 ge238_0
       clear hcc238 hce238
       have HR238_0 := Am hi238_0
       have HC238_0 := Am hl238_0
       clear hi238_0 hl238_0
       replace p238 := eq_true p238
       replace q238 := eq_true q238
       go_wp2_with (first | ((refine Gc (f := 122) rfl ?_); refine goesL_ (some 18) rfl rfl Try.func122 (by kernel_rfl) rfl #[.slice A238_0 (rd_L1 t235 x11_1).length c238_0, .slice A1 l1.length c1] rfl (by first | rfl | (simp only [List.map_toArray, List.map_cons, List.map_nil]; first | done | rfl)) ?_; (with_reducible refine (spec_l5ByKey.calls k1 _ _ (rd_L1 t235 x11_1) _ _ l1 t239 _ ?side1 ?side2 ?side3 ?side4 A9.out).mono ?_); (case side1 => repeat (first | exact (by repeat (first | (with_reducible exact HR238_0.out) | (with_reducible refine Kd.C_alloc ?_ _) | (with_reducible refine Kd.C_drewN ?_ _) | (with_reducible refine Kd.C_drew ?_) | exact HR238_0.out)) | (with_reducible refine Kd.C_alloc ?_ _) | (with_reducible refine Kd.C_drewN ?_ _) | (with_reducible refine Kd.C_drew ?_))); (case side2 => exact HC238_0.out); (case side3 => repeat (first | exact (Kd.C_below HR1.out HB.out) | (with_reducible refine Kd.C_alloc ?_ _) | (with_reducible refine Kd.C_drewN ?_ _) | (with_reducible refine Kd.C_drew ?_))); (case side4 => exact HC1.out); rintro e w11 ⟨v240, rfl, ho0, hb⟩; refine ⟨_, rfl, ?_⟩; have n0_ := Am (Kd.R_elder' (by (with_reducible repeat (first | apply Ra | apply Rn | apply Rd)); exact HO_5.out) (Kd.R_base ho0) hb); have n1_ := Am (Kd.S_elder' (by (with_reducible repeat (first | apply Sa | apply Sn | apply Sd)); exact HO_9.out) (Kd.R_base ho0) hb); have n2_ := Am (Kd.R_elder' (by (with_reducible repeat (first | apply Ra | apply Rn | apply Rd)); exact HL238_0.out) (Kd.R_base ho0) hb); have n3_ := Am (Kd.R_lower (Kd.R_new' (Kd.R_new' ho0 (Kd.R_lt (by (with_reducible repeat (first | apply Ra | apply Rn | apply Rd)); exact HO_5.out))) (Kd.R_lt (by (with_reducible repeat (first | apply Ra | apply Rn | apply Rd)); exact HL238_0.out))) (Bz (by repeat (first | exact HB.out | apply Ba | apply Bn | apply Bd)))); have n4_ := Am (Kd.C_below (by repeat (first | (with_reducible exact HR238_0.out) | (with_reducible refine Kd.C_alloc ?_ _) | (with_reducible refine Kd.C_drewN ?_ _) | (with_reducible refine Kd.C_drew ?_) | exact HR238_0.out)) hb); have n5_ := Am (Bt (by repeat (first | exact HB.out | apply Ba | apply Bn | apply Bd)) hb); clear HO_5; clear HO_9; clear HL238_0; clear HR238_0; clear HB; have HO_5 := n0_; have HO_9 := n1_; have HL238_0 := n2_; have HO241 := n3_; have HR238_0 := n4_; have HB := n5_; clear n0_ n1_ n2_ n3_ n4_ n5_; (try clear hb); (try clear hb2); (try clear hk); (try clear hi); (try clear ho0); obtain ⟨Ao13, co13, eo13⟩ := Kd.R_slice HO241.out; subst eo13) | ((with_reducible refine gate_builtin (b := .append) (xs := #[.tmp 15, .tmp 18]) rfl ?_); at_builtin; refine Kd.R_append_rows (Kd.int .i64) (w0 := w) w.heap.size rfl (.tmp 15) (.tmp 18) 24 3 (.int .i64 0) 8 rfl Try.underlying24 info3 rfl (by decide) (by omega) u5 x5_1 t239 _ _ _ (fun k_ => some k_ ≠ (.slice Ao13 t239.length co13 : Value).ownBlock) (fun _ => False) rfl rfl ?aO ?aR (fun _ _ h => h) (fun _ h => h.elim) ?aF ?aB ?aS ?aL ?_; (case aR => repeat (first | exact (Kd.R_reads' HO241.out).2.2 | (with_reducible refine Kd.C_alloc ?_ _) | (with_reducible refine Kd.C_drewN ?_ _) | (with_reducible refine Kd.C_drew ?_))); (case aB => exact (by repeat (first | exact HB.out | apply Ba | apply Bn | apply Bd))); (case aF => exact (fun k_ hk => Kd.fresh' (Kd.R_lt (by (with_reducible repeat (first | apply Ra | apply Rn | apply Rd)); exact HO241.out)) k_ hk)); (case aO => exact (by (with_reducible repeat (first | apply Ra | apply Rn | apply Rd)); exact Kd.R_mono HO_5.out (fun _ hk => hk.2))); (case aS => exact (Bz (by repeat (first | exact HB.out | apply Ba | apply Bn | apply Bd)))); (case aL => have := LMc10.out; omega); intro v243 w12 ho hb hg hat; rw [← Ny242.out] at ho; have n0_ := Am (Kd.S_after (ok := (fun k_ => some k_ ≠ (.slice Ao13 t239.length co13 : Value).ownBlock)) (by (with_reducible repeat (first | apply Sa | apply Sn | apply Sd)); exact Kd.S_mono HO_9.out (fun _ hk => ⟨hk.2, hk.1⟩)) hg hat); have n1_ := Am (Kd.R_after (ok := (fun k_ => some k_ ≠ (.slice (some ad238) t235.length co5 : Value).ownBlock ∧ some k_ ≠ (.slice Ao13 t239.length co13 : Value).ownBlock)) (by (with_reducible repeat (first | apply Ra | apply Rn | apply Rd)); exact Kd.R_mono HL238_0.out (fun _ hk => ⟨⟨hk.1.2, hk.2⟩, hk.1.1⟩)) hg hat); have n2_ := Am (Kd.R_after (ok := (fun k_ => some k_ ≠ (.slice A238_0 (rd_L1 t235 x11_1).length c238_0 : Value).ownBlock)) (by (with_reducible repeat (first | apply Ra | apply Rn | apply Rd)); exact Kd.R_mono HO241.out (fun _ hk => ⟨hk.2, hk.1.2⟩)) hg hat); have n3_ := Am (hb); have n4_ := Am (ho); clear HO_9; clear HL238_0; clear HO241; clear HB; clear HO_5; have HO_9 := n0_; have HL238_0 := n1_; have HO241 := n2_; have HB := n3_; have HO244 := n4_; clear n0_ n1_ n2_ n3_ n4_; clear ho hb hg hat))
       go_roundg k1
       case measure => have := HK1.out; omega
       case rel => exact ⟨(y242), (wrap64 (x11_1 + 1)), (by first | rfl | (simp; done) | (simp [*]; done)), H', ⟨by have := HK1.out; omega⟩, ⟨by (with_reducible repeat (first | apply Ra | apply Rn | apply Rd)); exact Kd.R_mono HO244.out (fun _ hk => trivial)⟩, ⟨by (with_reducible repeat (first | apply Sa | apply Sn | apply Sd)); exact Kd.S_mono HO_9.out (fun _ hk => hk.2)⟩, ⟨by repeat (first | exact HB.out | apply Ba | apply Bn | apply Bd)⟩⟩
      ·rw [if_neg c10] at H
       exact absurd H (by simp)
     ·rw [if_neg c8] at H
      exact absurd H (by simp)
    ·rw [if_neg c7] at H
     exact absurd H (by simp)
   ·rw [if_neg c6] at H
    have c6b0 : decide (x11_1 < (t235.length : Int)) = false := decide_eq_false c6
    clear c6
    obtain rfl := Option.some.inj H
    go_wp2
    go_ret
    exact ⟨_, by first | rfl | (simp [*, errW_none, errW_some] <;> rfl), by (with_reducible repeat (first | apply Ra | apply Rn | apply Rd)); exact HO_5.out, by repeat (first | exact HB.out | apply Ba | apply Bn | apply Bd)⟩
def spec_OrderOf.f (k : Nat) (l0 : List (List Int)) (l1 : List Int) : Option (List Int × Bool) := (spec_l5Keys.f k l0 l1).bind fun t245 => (if t245 = true then ((spec_l5Order.f k l0 l1).bind fun t246 => (some (t246, true))) else (some (([] : List Int), false)))
theorem spec_OrderOf.mono : ∀ a0 a1 k, LeO (spec_OrderOf.f k a0 a1) (spec_OrderOf.f (k + 1) a0 a1) := by
 intro a0 a1 k
 unfold spec_OrderOf.f
 repeat' first
   | (with_reducible exact spec_l5Keys.mono _ _ _)
   | (with_reducible exact spec_l5Order.mono _ _ _)
   | (with_reducible exact LeO.refl _)
   | (with_reducible exact LeO.none _)
   | (with_reducible refine LeO.ite ?_ ?_)
   | (with_reducible refine LeO.bind ?_ (fun _ => ?_))
   | exact spec_l5Keys.mono _ _ _
   | exact spec_l5Order.mono _ _ _
   | exact LeO.none _
   | refine LeO.ite ?_ ?_
   | refine LeO.bind ?_ (fun _ => ?_)
set_option maxHeartbeats 8000000 in
set_option maxRecDepth 100000 in
theorem spec_OrderOf.calls (k : Nat) (A0 : Option Addr) (c0 : Nat) (l0 : List (List Int)) (A1 : Option Addr) (c1 : Nat) (l1 : List Int) (r1 : List Int) (r2 : Bool) (w : World) (hr0 : Kd.C (Kd.slice 3 (Kd.int .i64)) w A0 l0.length l0) (hc0 : l0.length ≤ c0) (hr1 : Kd.C (Kd.int .i64) w A1 l1.length l1) (hc1 : l1.length ≤ c1) (h : spec_OrderOf.f k l0 l1 = some (r1, r2)) :
  Calls Try.prog 54 #[.slice A0 l0.length c0, .slice A1 l1.length c1] w fun e w' => ∃ v0_ : Value, e = .returned (.tuple #[v0_, .bool r2]) ∧ Kd.R (Kd.int .i64) 3 w' w.heap.size (fun _ => True) v0_ r1 ∧ Below w.heap.size w w' := by
 have HR0 := Am hr0
 have HC0 := Am hc0
 clear hr0 hc0
 have HR1 := Am hr1
 have HC1 := Am hc1
 clear hr1 hc1
 have HB := Am (Below.refl w.heap.size w)
 have H : ((spec_l5Keys.f k l0 l1).bind fun t245 => (if t245 = true then ((spec_l5Order.f k l0 l1).bind fun t246 => (some (t246, true))) else (some (([] : List Int), false)))) = some (r1, r2) := h
 clear h
 replace H := Option.bind_eq_some_iff.mp H
 obtain ⟨t245, A30, H⟩ := H
 replace H : (if t245 = true then ((spec_l5Order.f k l0 l1).bind fun t246 => (some (t246, true))) else (some (([] : List Int), false))) = some (r1, r2) := H
 have A3 := Am A30
 clear A30
 by_cases c4 : t245 = true
 ·subst c4
  have H1 : ((spec_l5Order.f k l0 l1).bind fun t246 => (some (t246, true))) = some (r1, r2) := by rw [if_pos rfl] at H; exact H
  clear H
  have H := H1
  clear H1
  replace H := Option.bind_eq_some_iff.mp H
  obtain ⟨t246, A50, H⟩ := H
  replace H : (some (t246, true)) = some (r1, r2) := H
  have A5 := Am A50
  clear A50
  simp only [Option.some.injEq, Prod.mk.injEq] at H
  obtain ⟨rfl, rfl⟩ := H
  go_enter Try.func54, Try.ntmps54
  go_wp2_with (first | ((refine Gc (f := 116) rfl ?_); refine goesL_ (some 8) rfl rfl Try.func116 (by kernel_rfl) rfl #[.slice A0 l0.length c0, .slice A1 l1.length c1] rfl (by first | rfl | (simp only [List.map_toArray, List.map_cons, List.map_nil]; first | done | rfl)) ?_; (with_reducible refine (spec_l5Keys.calls k _ _ l0 _ _ l1 true _ ?side1 ?side2 ?side3 ?side4 A3.out).mono ?_); (case side1 => repeat (first | exact HR0.out | (with_reducible refine Kd.C_alloc ?_ _) | (with_reducible refine Kd.C_drewN ?_ _) | (with_reducible refine Kd.C_drew ?_))); (case side2 => exact HC0.out); (case side3 => repeat (first | exact HR1.out | (with_reducible refine Kd.C_alloc ?_ _) | (with_reducible refine Kd.C_drewN ?_ _) | (with_reducible refine Kd.C_drew ?_))); (case side4 => exact HC1.out); rintro e w' ⟨rfl, ⟨nd, rfl⟩⟩; refine ⟨_, rfl, ?_⟩) | ((refine Gc (f := 117) rfl ?_); refine goesL_ (some 12) rfl rfl Try.func117 (by kernel_rfl) rfl #[.slice A0 l0.length c0, .slice A1 l1.length c1] rfl (by first | rfl | (simp only [List.map_toArray, List.map_cons, List.map_nil]; first | done | rfl)) ?_; (with_reducible refine (spec_l5Order.calls k _ _ l0 _ _ l1 t246 _ ?side1 ?side2 ?side3 ?side4 A5.out).mono ?_); (case side1 => repeat (first | exact HR0.out | (with_reducible refine Kd.C_alloc ?_ _) | (with_reducible refine Kd.C_drewN ?_ _) | (with_reducible refine Kd.C_drew ?_))); (case side2 => exact HC0.out); (case side3 => repeat (first | exact HR1.out | (with_reducible refine Kd.C_alloc ?_ _) | (with_reducible refine Kd.C_drewN ?_ _) | (with_reducible refine Kd.C_drew ?_))); (case side4 => exact HC1.out); rintro e w6 ⟨v247, rfl, ho0, hb⟩; refine ⟨_, rfl, ?_⟩; have n0_ := Am (Kd.R_lower ho0 (Bz (by repeat (first | exact HB.out | apply Ba | apply Bn | apply Bd)))); have n1_ := Am (Bt (by repeat (first | exact HB.out | apply Ba | apply Bn | apply Bd)) hb); clear HB; have HO248 := n0_; have HB := n1_; clear n0_ n1_; (try clear hb); (try clear hb2); (try clear hk); (try clear hi); (try clear ho0)))
  go_ret2
  exact ⟨_, by first | rfl | (simp [*, errW_none, errW_some] <;> rfl), by (with_reducible repeat (first | apply Ra | apply Rn | apply Rd)); exact HO248.out, by repeat (first | exact HB.out | apply Ba | apply Bn | apply Bd)⟩
 ·replace c4 := Bool.eq_false_iff.mpr c4
  subst c4
  have H1 : (some (([] : List Int), false)) = some (r1, r2) := by rw [if_neg (show ¬ (false = true) by decide)] at H; exact H
  clear H
  have H := H1
  clear H1
  simp only [Option.some.injEq, Prod.mk.injEq] at H
  obtain ⟨rfl, rfl⟩ := H
  go_enter Try.func54, Try.ntmps54
  go_wp2_with (first | ((refine Gc (f := 116) rfl ?_); refine goesL_ (some 8) rfl rfl Try.func116 (by kernel_rfl) rfl #[.slice A0 l0.length c0, .slice A1 l1.length c1] rfl (by first | rfl | (simp only [List.map_toArray, List.map_cons, List.map_nil]; first | done | rfl)) ?_; (with_reducible refine (spec_l5Keys.calls k _ _ l0 _ _ l1 false _ ?side1 ?side2 ?side3 ?side4 A3.out).mono ?_); (case side1 => repeat (first | exact HR0.out | (with_reducible refine Kd.C_alloc ?_ _) | (with_reducible refine Kd.C_drewN ?_ _) | (with_reducible refine Kd.C_drew ?_))); (case side2 => exact HC0.out); (case side3 => repeat (first | exact HR1.out | (with_reducible refine Kd.C_alloc ?_ _) | (with_reducible refine Kd.C_drewN ?_ _) | (with_reducible refine Kd.C_drew ?_))); (case side4 => exact HC1.out); rintro e w' ⟨rfl, ⟨nd, rfl⟩⟩; refine ⟨_, rfl, ?_⟩))
  go_ret2
  exact ⟨_, by first | rfl | (simp [*, errW_none, errW_some] <;> rfl), by first | exact Kd.R_nil _ _ _ _ _ | exact Kd.N_nil _ _ _ _ _ | exact Kd.V_nil _ _ _ _ _ | exact Kd.Q_nil _ _ _ _ _ | exact Kd.S_nil _ _ _ _ _, by repeat (first | exact HB.out | apply Ba | apply Bn | apply Bd)⟩
set_option maxHeartbeats 2000000 in
set_option maxRecDepth 100000 in
theorem slices_IndexFunc_int_int_159.anyO (g : Nat) (lb : Array Value) (p : (List Int) → Option Bool) (A : Option Addr) (c : Nat) (xs : List (List Int)) (w : World) (r : Int)
  (eg : ∀ args w, (callFunc g args).run Try.prog w = .ok (.enter g args) w)
  (hr : Kd.C (Kd.slice 3 (Kd.int .i64)) w A xs.length xs) (hc : xs.length ≤ c)
  (hp : ∀ (W : World) (x : (List Int)) (A : Option Addr) (c : Nat), x ∈ xs → Below w.heap.size w W → Kd.C (Kd.int .i64) W A x.length x → x.length ≤ c → ∀ b : Bool, p x = some b → Calls Try.prog g (#[.slice A x.length c] ++ lb) W fun e w' => e = .returned (.bool b) ∧ Below W.heap.size W w') (h : Mine.idxO p xs 0 = some r) :
  Calls Try.prog 159 #[.slice A xs.length c, .func (.func g) #[] lb] w fun e w' => e = .returned (.int .i64 r) ∧ Below w.heap.size w w' := by
 have hm : xs.length ≤ 9223372036854775807 := hr.2.1
 have HR := Am hr
 have HP := Am hp
 have HI := Am h
 clear hr hp h
 go_enter Try.func159, Try.ntmps159
 go_wp2
 go_loopg [5, 8] xs.length (fun gg _ s8 wr => ∃ kk : Nat, kk ≤ xs.length ∧ xs.length - kk ≤ gg ∧ s8 = .int .i64 kk ∧ Ad (Below w.heap.size w wr) ∧ Ad (Mine.idxO p (xs.drop kk) (kk : Int) = some r))
 case atStart => exact ⟨0, Nat.zero_le _, by omega, rfl, ⟨Below.refl _ w⟩, ⟨by simpa using HI.out⟩⟩
 case round =>
  obtain ⟨kk, hkk, hg, rfl, BW, PF⟩ := hrel
  by_cases hlt : kk < xs.length
  ·have hltz : (kk : Int) < (xs.length : Int) := by omega
   obtain ⟨ad, _, _, rfl, hx0, hl0, hi0⟩ := at_L1 (Kd.C_below HR.out BW.out) (kk : Int) (by omega) hltz
   simp only [Int.toNat_natCast] at hx0
   have hy : Ad (xs.getD kk [] = rd_L1 xs (kk : Int)) := ⟨by unfold rd_L1; rw [Int.toNat_natCast]⟩
   have hmem : rd_L1 xs (kk : Int) ∈ xs := by rw [← hy.out]; exact Mine.getD_mem _ _ _ hlt
   have PG : Ad ((p (rd_L1 xs (kk : Int))).bind (fun b => if b = true then some (kk : Int) else Mine.idxO p (xs.drop (kk + 1)) ((kk : Int) + 1)) = some r) := ⟨by have h_ := PF.out; rw [Mine.drop_at xs [] kk hlt, hy.out] at h_; exact h_⟩
   have hcall := HP.out wr (rd_L1 xs (kk : Int)) _ _ hmem BW.out hi0 hl0
   clear hmem PF
   clear hi0 hl0
   generalize rd_L1 xs (kk : Int) = y at hx0 hcall hy PG
   cases hq : p y with
   | none => exact absurd PG.out (by rw [hq]; simp)
   | some b =>
    have hcall := hcall b hq
    have PG : Ad ((if b = true then some (kk : Int) else Mine.idxO p (xs.drop (kk + 1)) ((kk : Int) + 1)) = some r) := ⟨by have h_ := PG.out; rw [hq] at h_; exact h_⟩
    clear hq hy
    cases b with
    | true =>
     obtain rfl := Option.some.inj PG.out
     clear PG
     go_wp2_with fail
     refine hcall.mono ?_; rintro e w' ⟨rfl, hb'⟩
     go_wp2
     go_ret
     exact ⟨rfl, below_then BW.out BW.out.size hb'⟩
    | false =>
     go_wp2_with fail
     refine hcall.mono ?_; rintro e w' ⟨rfl, hb'⟩
     go_wp2
     go_roundg (xs.length - (kk + 1))
     case measure => omega
     case rel => exact ⟨kk + 1, by omega, by omega, by go_num, ⟨below_then BW.out BW.out.size hb'⟩, ⟨by have h_ := PG.out; simpa using h_⟩⟩
  ·have hltz : ¬ (kk : Int) < (xs.length : Int) := by omega
   obtain rfl : kk = xs.length := by omega
   have PG : Ad ((-1 : Int) = r) := ⟨by have h_ := PF.out; rw [List.drop_eq_nil_of_le (Nat.le_refl _)] at h_; exact Option.some.inj h_⟩
   clear PF
   go_wp2
   go_ret
   refine ⟨?_, BW.out⟩
   rw [← PG.out]
   first | done | rfl
theorem slices_IndexFunc_int_int_159.any (g : Nat) (lb : Array Value) (p : (List Int) → Bool) (A : Option Addr) (c : Nat) (xs : List (List Int)) (w : World)
  (eg : ∀ args w, (callFunc g args).run Try.prog w = .ok (.enter g args) w)
  (hr : Kd.C (Kd.slice 3 (Kd.int .i64)) w A xs.length xs) (hc : xs.length ≤ c)
  (hp : ∀ (W : World) (x : (List Int)) (A : Option Addr) (c : Nat), x ∈ xs → Below w.heap.size w W → Kd.C (Kd.int .i64) W A x.length x → x.length ≤ c → Calls Try.prog g (#[.slice A x.length c] ++ lb) W fun e w' => e = .returned (.bool (p x)) ∧ Below W.heap.size W w') :
  Calls Try.prog 159 #[.slice A xs.length c, .func (.func g) #[] lb] w fun e w' => e = .returned (.int .i64 (Mine.idxP p xs 0)) ∧ Below w.heap.size w w' :=
 slices_IndexFunc_int_int_159.anyO g lb (fun x => some (p x)) A c xs w _ eg hr hc (fun W x A c hx bW hi hl b hb_ => by cases hb_; exact hp W x A c hx bW hi hl) (Mine.idxO_total (fun _ _ => rfl) 0)
set_option maxHeartbeats 2000000 in
theorem slices_ContainsFunc_int_int_104.anyO (g : Nat) (lb : Array Value) (p : (List Int) → Option Bool) (A : Option Addr) (c : Nat) (xs : List (List Int)) (w : World) (r : Bool)
  (eg : ∀ args w, (callFunc g args).run Try.prog w = .ok (.enter g args) w)
  (hr : Kd.C (Kd.slice 3 (Kd.int .i64)) w A xs.length xs) (hc : xs.length ≤ c)
  (hp : ∀ (W : World) (x : (List Int)) (A : Option Addr) (c : Nat), x ∈ xs → Below w.heap.size w W → Kd.C (Kd.int .i64) W A x.length x → x.length ≤ c → ∀ b : Bool, p x = some b → Calls Try.prog g (#[.slice A x.length c] ++ lb) W fun e w' => e = .returned (.bool b) ∧ Below W.heap.size W w') (h : Mine.anyO p xs = some r) :
  Calls Try.prog 104 #[.slice A xs.length c, .func (.func g) #[] lb] w fun e w' => e = .returned (.bool r) ∧ Below w.heap.size w w' := by
 obtain ⟨y, hi, he⟩ := Mine.anyO_idx p xs r h
 have hcall := slices_IndexFunc_int_int_159.anyO g lb p A c xs w y eg hr hc hp hi
 have he := Am he
 clear hp hr eg hi h
 go_enter Try.func104, Try.ntmps104
 go_wp2_with fail
 refine hcall.mono ?_; rintro e w' ⟨rfl, hb'⟩
 go_wp2
 go_ret
 refine ⟨?_, hb'⟩
 rw [← he.out]
 rfl
theorem slices_ContainsFunc_int_int_104.any (g : Nat) (lb : Array Value) (p : (List Int) → Bool) (A : Option Addr) (c : Nat) (xs : List (List Int)) (w : World)
  (eg : ∀ args w, (callFunc g args).run Try.prog w = .ok (.enter g args) w)
  (hr : Kd.C (Kd.slice 3 (Kd.int .i64)) w A xs.length xs) (hc : xs.length ≤ c)
  (hp : ∀ (W : World) (x : (List Int)) (A : Option Addr) (c : Nat), x ∈ xs → Below w.heap.size w W → Kd.C (Kd.int .i64) W A x.length x → x.length ≤ c → Calls Try.prog g (#[.slice A x.length c] ++ lb) W fun e w' => e = .returned (.bool (p x)) ∧ Below W.heap.size W w') :
  Calls Try.prog 104 #[.slice A xs.length c, .func (.func g) #[] lb] w fun e w' => e = .returned (.bool (Mine.anyP p xs)) ∧ Below w.heap.size w w' :=
 slices_ContainsFunc_int_int_104.anyO g lb (fun x => some (p x)) A c xs w _ eg hr hc (fun W x A c hx bW hi hl b hb_ => by cases hb_; exact hp W x A c hx bW hi hl) (Mine.anyO_total (fun _ _ => rfl))
set_option maxHeartbeats 2000000 in
set_option maxRecDepth 100000 in
theorem slices_IndexFunc_int_int_134.anyO (g : Nat) (lb : Array Value) (p : Int → Option Bool) (A : Option Addr) (c : Nat) (xs : List Int) (w : World) (r : Int)
  (eg : ∀ args w, (callFunc g args).run Try.prog w = .ok (.enter g args) w)
  (hr : Kd.C (Kd.int .i64) w A xs.length xs) (hc : xs.length ≤ c)
  (hp : ∀ (W : World) (x : Int), x ∈ xs → Below w.heap.size w W → ∀ b : Bool, p x = some b → Calls Try.prog g (#[.int .i64 x] ++ lb) W fun e w' => e = .returned (.bool b) ∧ Below W.heap.size W w') (h : Mine.idxO p xs 0 = some r) :
  Calls Try.prog 134 #[.slice A xs.length c, .func (.func g) #[] lb] w fun e w' => e = .returned (.int .i64 r) ∧ Below w.heap.size w w' := by
 have hm : xs.length ≤ 9223372036854775807 := hr.2.1
 have HR := Am hr
 have HP := Am hp
 have HI := Am h
 clear hr hp h
 go_enter Try.func134, Try.ntmps134
 go_wp2
 go_loopg [5, 8] xs.length (fun gg _ s8 wr => ∃ kk : Nat, kk ≤ xs.length ∧ xs.length - kk ≤ gg ∧ s8 = .int .i64 kk ∧ Ad (Below w.heap.size w wr) ∧ Ad (Mine.idxO p (xs.drop kk) (kk : Int) = some r))
 case atStart => exact ⟨0, Nat.zero_le _, by omega, rfl, ⟨Below.refl _ w⟩, ⟨by simpa using HI.out⟩⟩
 case round =>
  obtain ⟨kk, hkk, hg, rfl, BW, PF⟩ := hrel
  by_cases hlt : kk < xs.length
  ·have hltz : (kk : Int) < (xs.length : Int) := by omega
   obtain ⟨ad, rfl, hx0⟩ := Kd.at_int (Kd.C_below HR.out BW.out) (kk : Int) (by omega) hltz
   simp only [Int.toNat_natCast] at hx0
   have hy : Ad (xs.getD kk 0 = rd xs (kk : Int)) := ⟨by unfold rd; rw [Int.toNat_natCast]⟩
   have hmem : rd xs (kk : Int) ∈ xs := by rw [← hy.out]; exact Mine.getD_mem _ _ _ hlt
   have PG : Ad ((p (rd xs (kk : Int))).bind (fun b => if b = true then some (kk : Int) else Mine.idxO p (xs.drop (kk + 1)) ((kk : Int) + 1)) = some r) := ⟨by have h_ := PF.out; rw [Mine.drop_at xs 0 kk hlt, hy.out] at h_; exact h_⟩
   have hcall := HP.out wr (rd xs (kk : Int)) hmem BW.out
   clear hmem PF
   skip
   generalize rd xs (kk : Int) = y at hx0 hcall hy PG
   cases hq : p y with
   | none => exact absurd PG.out (by rw [hq]; simp)
   | some b =>
    have hcall := hcall b hq
    have PG : Ad ((if b = true then some (kk : Int) else Mine.idxO p (xs.drop (kk + 1)) ((kk : Int) + 1)) = some r) := ⟨by have h_ := PG.out; rw [hq] at h_; exact h_⟩
    clear hq hy
    cases b with
    | true =>
     obtain rfl := Option.some.inj PG.out
     clear PG
     go_wp2_with fail
     refine hcall.mono ?_; rintro e w' ⟨rfl, hb'⟩
     go_wp2
     go_ret
     exact ⟨rfl, below_then BW.out BW.out.size hb'⟩
    | false =>
     go_wp2_with fail
     refine hcall.mono ?_; rintro e w' ⟨rfl, hb'⟩
     go_wp2
     go_roundg (xs.length - (kk + 1))
     case measure => omega
     case rel => exact ⟨kk + 1, by omega, by omega, by go_num, ⟨below_then BW.out BW.out.size hb'⟩, ⟨by have h_ := PG.out; simpa using h_⟩⟩
  ·have hltz : ¬ (kk : Int) < (xs.length : Int) := by omega
   obtain rfl : kk = xs.length := by omega
   have PG : Ad ((-1 : Int) = r) := ⟨by have h_ := PF.out; rw [List.drop_eq_nil_of_le (Nat.le_refl _)] at h_; exact Option.some.inj h_⟩
   clear PF
   go_wp2
   go_ret
   refine ⟨?_, BW.out⟩
   rw [← PG.out]
   first | done | rfl
theorem slices_IndexFunc_int_int_134.any (g : Nat) (lb : Array Value) (p : Int → Bool) (A : Option Addr) (c : Nat) (xs : List Int) (w : World)
  (eg : ∀ args w, (callFunc g args).run Try.prog w = .ok (.enter g args) w)
  (hr : Kd.C (Kd.int .i64) w A xs.length xs) (hc : xs.length ≤ c)
  (hp : ∀ (W : World) (x : Int), x ∈ xs → Below w.heap.size w W → Calls Try.prog g (#[.int .i64 x] ++ lb) W fun e w' => e = .returned (.bool (p x)) ∧ Below W.heap.size W w') :
  Calls Try.prog 134 #[.slice A xs.length c, .func (.func g) #[] lb] w fun e w' => e = .returned (.int .i64 (Mine.idxP p xs 0)) ∧ Below w.heap.size w w' :=
 slices_IndexFunc_int_int_134.anyO g lb (fun x => some (p x)) A c xs w _ eg hr hc (fun W x hx bW b hb_ => by cases hb_; exact hp W x hx bW) (Mine.idxO_total (fun _ _ => rfl) 0)
set_option maxHeartbeats 2000000 in
theorem slices_ContainsFunc_int_int_74.anyO (g : Nat) (lb : Array Value) (p : Int → Option Bool) (A : Option Addr) (c : Nat) (xs : List Int) (w : World) (r : Bool)
  (eg : ∀ args w, (callFunc g args).run Try.prog w = .ok (.enter g args) w)
  (hr : Kd.C (Kd.int .i64) w A xs.length xs) (hc : xs.length ≤ c)
  (hp : ∀ (W : World) (x : Int), x ∈ xs → Below w.heap.size w W → ∀ b : Bool, p x = some b → Calls Try.prog g (#[.int .i64 x] ++ lb) W fun e w' => e = .returned (.bool b) ∧ Below W.heap.size W w') (h : Mine.anyO p xs = some r) :
  Calls Try.prog 74 #[.slice A xs.length c, .func (.func g) #[] lb] w fun e w' => e = .returned (.bool r) ∧ Below w.heap.size w w' := by
 obtain ⟨y, hi, he⟩ := Mine.anyO_idx p xs r h
 have hcall := slices_IndexFunc_int_int_134.anyO g lb p A c xs w y eg hr hc hp hi
 have he := Am he
 clear hp hr eg hi h
 go_enter Try.func74, Try.ntmps74
 go_wp2_with fail
 refine hcall.mono ?_; rintro e w' ⟨rfl, hb'⟩
 go_wp2
 go_ret
 refine ⟨?_, hb'⟩
 rw [← he.out]
 rfl
theorem slices_ContainsFunc_int_int_74.any (g : Nat) (lb : Array Value) (p : Int → Bool) (A : Option Addr) (c : Nat) (xs : List Int) (w : World)
  (eg : ∀ args w, (callFunc g args).run Try.prog w = .ok (.enter g args) w)
  (hr : Kd.C (Kd.int .i64) w A xs.length xs) (hc : xs.length ≤ c)
  (hp : ∀ (W : World) (x : Int), x ∈ xs → Below w.heap.size w W → Calls Try.prog g (#[.int .i64 x] ++ lb) W fun e w' => e = .returned (.bool (p x)) ∧ Below W.heap.size W w') :
  Calls Try.prog 74 #[.slice A xs.length c, .func (.func g) #[] lb] w fun e w' => e = .returned (.bool (Mine.anyP p xs)) ∧ Below w.heap.size w w' :=
 slices_ContainsFunc_int_int_74.anyO g lb (fun x => some (p x)) A c xs w _ eg hr hc (fun W x hx bW b hb_ => by cases hb_; exact hp W x hx bW) (Mine.anyO_total (fun _ _ => rfl))
def impl_within.f (a0 : Int) (a1 : Int) (a2 : Int) : Option (Bool) := if a1 ≤ a0 then (some (decide (a0 ≤ a2))) else (some false)
set_option maxHeartbeats 8000000 in
set_option maxRecDepth 100000 in
theorem impl_within.calls (a0 : Int) (a1 : Int) (a2 : Int) (r : Bool) (w : World) (h : impl_within.f a0 a1 a2 = some r) :
  Calls Try.prog 76 #[.int .i64 a0, .int .i64 a1, .int .i64 a2] w fun e w' => e = .returned (.bool r) ∧ Drawn0 w w' := by
 have H : (if a1 ≤ a0 then (some (decide (a0 ≤ a2))) else (some false)) = some r := h
 clear h
 by_cases c4 : a1 ≤ a0
 ·rw [if_pos c4] at H
  have c4b0 : decide (a1 ≤ a0) = true := decide_eq_true c4
  clear c4
  obtain rfl := Option.some.inj H
  go_enter Try.func76, Try.ntmps76
  go_wp2
  go_ret
  exact ⟨by first | rfl | (simp; done) | (simp [*]; done), by repeat (first | exact Drawn0.refl _ | apply Drawn0.step)⟩
 ·rw [if_neg c4] at H
  have c4b0 : decide (a1 ≤ a0) = false := decide_eq_false c4
  clear c4
  obtain rfl := Option.some.inj H
  go_enter Try.func76, Try.ntmps76
  go_wp2
  go_ret
  exact ⟨by first | rfl | (simp; done) | (simp [*]; done), by repeat (first | exact Drawn0.refl _ | apply Drawn0.step)⟩
end Go.Proofs.Yteecmbfebenjjaa.QFnExactOrderOf
