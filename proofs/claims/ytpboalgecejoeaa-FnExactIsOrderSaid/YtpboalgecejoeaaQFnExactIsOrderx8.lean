-- Written by a program of this session (wip/mk.py) over the kit's print: Lean checks it.
import Derived.Test.YtpboalgecejoeaaQFnExactIsOrderx0
import Derived.Test.YtpboalgecejoeaaQFnExactIsOrderx6
import Derived.Test.YtpboalgecejoeaaQFnExactIsOrderx7
namespace Go.Proofs.Ytpboalgecejoeaa.QFnExactIsOrder
open Go.Proofs.YtpboalgecejoeaaW.PrintWords.Kd renaming R_alloc → Ra, R_drewN → Rn, R_drew → Rd
open Go.Proofs.YtpboalgecejoeaaW.PrintWords renaming below_alloc → Ba, pw_below_drewN → Bn, below_drew1 → Bd, below_set → Bs, below_size → Bz, below_step → Bt, gate_dst → Gd, gate_store → Gs, blk_below → Kb, blk_cell → Kc, blk_frozen → Kz
open Go.World renaming block_lt_of_cell? → bl_
open Go.Proofs.YtpboalgecejoeaaW.PrintWords.Aside0 renaming mk → Am
open Go.Proofs.YtpboalgecejoeaaW.PrintWords renaming Aside0 → Ad
open Go.RowKit Go.Proofs.YtpboalgecejoeaaW.PrintWords Go.Proofs.YtpboalgecejoeaaW.PrintLast Go.Proofs.YtpboalgecejoeaaW.PrintMore
attribute [local go_sem] max2_int min2_int max_two min_two max_three min_three max_four min_four   -- for this text's walks alone
set_option linter.unusedVariables false
set_option linter.unusedSimpArgs false
mutual
def impl_reached.l0 : Nat → List (List Int) → List Bool → List Int → Option (List Int)
 | 0, _, _, _ => none
 | k + 1, x0, x5, x6 => if (x6.length : Int) > 0 then (if 0 < (x6.length : Int) then (if 0 ≤ (rd x6 0) then (if (rd x6 0) < (x0.length : Int) then (impl_reached.l1 k x0 x5 x6 (rd_L1 x0 (rd x6 0)) ((rd_L1 x0 (rd x6 0)).length : Int) 0) else (none)) else (none)) else (none)) else (impl_reached.l2 k (([] : List Int)) x5 (x5.length : Int) 0)
def impl_reached.l1 : Nat → List (List Int) → List Bool → List Int → List Int → Int → Int → Option (List Int)
 | 0, _, _, _, _, _, _ => none
 | k + 1, x0, x5, x6, x30, x31, x32 => if x32 < x31 then (if 0 ≤ x32 then (if x32 < (x30.length : Int) then (if 0 ≤ (rd x30 x32) then (if (rd x30 x32) < (x5.length : Int) then (if (rdOf false x5 (rd x30 x32) = true) then (impl_reached.l1 k x0 x5 x6 x30 x31 (wrap64 (x32 + 1))) else (if x6.length < 17592186044416 then (impl_reached.l1 k x0 (x5.set ((rd x30 x32) : Int).toNat true) (x6 ++ [rd x30 x32]) x30 x31 (wrap64 (x32 + 1))) else (none))) else (none)) else (none)) else (none)) else (none)) else (if 1 ≤ (x6.length : Int) then (impl_reached.l0 k x0 x5 (x6.drop (1 : Int).toNat)) else (none))
def impl_reached.l2 : Nat → List Int → List Bool → Int → Int → Option (List Int)
 | 0, _, _, _, _ => none
 | k + 1, x9, x50, x51, x52 => if x52 < x51 then (if 0 ≤ x52 then (if x52 < (x50.length : Int) then (if rdOf false x50 x52 = true then (if x9.length < 17592186044416 then (impl_reached.l2 k (x9 ++ [x52]) x50 x51 (wrap64 (x52 + 1))) else (none)) else (impl_reached.l2 k x9 x50 x51 (wrap64 (x52 + 1)))) else (none)) else (none)) else (some x9)
end
def impl_reached.f (k : Nat) (l0 : List (List Int)) (a1 : Int) : Option (List Int) := if 0 ≤ (l0.length : Int) then (if ((l0.length : Int) : Int).toNat ≤ 281474976710656 then ((some (List.replicate ((l0.length : Int) : Int).toNat false : List Bool)).bind fun y267 => (if 0 ≤ a1 then (if a1 < (y267.length : Int) then (impl_reached.l0 k l0 (y267.set (a1 : Int).toNat true) (([a1] : List Int))) else (none)) else (none))) else (none)) else (none)
theorem impl_reached.mono_l : ∀ k, (∀ y0 y1 y2, LeO (impl_reached.l0 k y0 y1 y2) (impl_reached.l0 (k + 1) y0 y1 y2)) ∧ (∀ y0 y1 y2 y3 y4 y5, LeO (impl_reached.l1 k y0 y1 y2 y3 y4 y5) (impl_reached.l1 (k + 1) y0 y1 y2 y3 y4 y5)) ∧ (∀ y0 y1 y2 y3, LeO (impl_reached.l2 k y0 y1 y2 y3) (impl_reached.l2 (k + 1) y0 y1 y2 y3))
 | 0 => ⟨fun _ _ _ r h => by simp [impl_reached.l0] at h, fun _ _ _ _ _ _ r h => by simp [impl_reached.l1] at h, fun _ _ _ _ r h => by simp [impl_reached.l2] at h⟩
 | k + 1 => by
  obtain ⟨ih0, ih1, ih2⟩ := impl_reached.mono_l k
  refine ⟨?_, ?_, ?_⟩
  ·intro y0 y1 y2
   unfold impl_reached.l0
   repeat' first
   | (with_reducible exact ih0 _ _ _)
   | (with_reducible exact ih1 _ _ _ _ _ _)
   | (with_reducible exact ih2 _ _ _ _)
   | (with_reducible exact LeO.refl _)
   | (with_reducible exact LeO.none _)
   | (with_reducible refine LeO.ite ?_ ?_)
   | (with_reducible refine LeO.bind ?_ (fun _ => ?_))
   | exact ih0 _ _ _
   | exact ih1 _ _ _ _ _ _
   | exact ih2 _ _ _ _
   | exact LeO.none _
   | refine LeO.ite ?_ ?_
   | refine LeO.bind ?_ (fun _ => ?_)
  ·intro y0 y1 y2 y3 y4 y5
   unfold impl_reached.l1
   repeat' first
   | (with_reducible exact ih0 _ _ _)
   | (with_reducible exact ih1 _ _ _ _ _ _)
   | (with_reducible exact ih2 _ _ _ _)
   | (with_reducible exact LeO.refl _)
   | (with_reducible exact LeO.none _)
   | (with_reducible refine LeO.ite ?_ ?_)
   | (with_reducible refine LeO.bind ?_ (fun _ => ?_))
   | exact ih0 _ _ _
   | exact ih1 _ _ _ _ _ _
   | exact ih2 _ _ _ _
   | exact LeO.none _
   | refine LeO.ite ?_ ?_
   | refine LeO.bind ?_ (fun _ => ?_)
  ·intro y0 y1 y2 y3
   unfold impl_reached.l2
   repeat' first
   | (with_reducible exact ih0 _ _ _)
   | (with_reducible exact ih1 _ _ _ _ _ _)
   | (with_reducible exact ih2 _ _ _ _)
   | (with_reducible exact LeO.refl _)
   | (with_reducible exact LeO.none _)
   | (with_reducible refine LeO.ite ?_ ?_)
   | (with_reducible refine LeO.bind ?_ (fun _ => ?_))
   | exact ih0 _ _ _
   | exact ih1 _ _ _ _ _ _
   | exact ih2 _ _ _ _
   | exact LeO.none _
   | refine LeO.ite ?_ ?_
   | refine LeO.bind ?_ (fun _ => ?_)
theorem impl_reached.mono : ∀ a0 a1 k, LeO (impl_reached.f k a0 a1) (impl_reached.f (k + 1) a0 a1) := by
 intro a0 a1 k
 obtain ⟨ih0, ih1, ih2⟩ := impl_reached.mono_l k
 unfold impl_reached.f
 repeat' first
   | (with_reducible exact ih0 _ _ _)
   | (with_reducible exact ih1 _ _ _ _ _ _)
   | (with_reducible exact ih2 _ _ _ _)
   | (with_reducible exact LeO.refl _)
   | (with_reducible exact LeO.none _)
   | (with_reducible refine LeO.ite ?_ ?_)
   | (with_reducible refine LeO.bind ?_ (fun _ => ?_))
   | exact ih0 _ _ _
   | exact ih1 _ _ _ _ _ _
   | exact ih2 _ _ _ _
   | exact LeO.none _
   | refine LeO.ite ?_ ?_
   | refine LeO.bind ?_ (fun _ => ?_)
set_option maxHeartbeats 8000000 in
set_option maxRecDepth 100000 in
theorem impl_reached.calls (k : Nat) (A0 : Option Addr) (c0 : Nat) (l0 : List (List Int)) (a1 : Int) (r : List Int) (w : World) (hr0 : Kd.C (Kd.slice 3 (Kd.int .i64)) w A0 l0.length l0) (hc0 : l0.length ≤ c0) (h : impl_reached.f k l0 a1 = some r) :
  Calls Try.prog 58 #[.slice A0 l0.length c0, .int .i64 a1] w fun e w' => ∃ v0_ : Value, e = .returned (v0_) ∧ Kd.R (Kd.int .i64) 3 w' w.heap.size (fun _ => True) v0_ r ∧ Below w.heap.size w w' := by
 have HR0 := Am hr0
 have HC0 := Am hc0
 clear hr0 hc0
 have HB := Am (Below.refl w.heap.size w)
 have H : (if 0 ≤ (l0.length : Int) then (if ((l0.length : Int) : Int).toNat ≤ 281474976710656 then ((some (List.replicate ((l0.length : Int) : Int).toNat false : List Bool)).bind fun y267 => (if 0 ≤ a1 then (if a1 < (y267.length : Int) then (impl_reached.l0 k l0 (y267.set (a1 : Int).toNat true) (([a1] : List Int))) else (none)) else (none))) else (none)) else (none)) = some r := h
 clear h
 by_cases c3 : 0 ≤ (l0.length : Int)
 ·rw [if_pos c3] at H
  have c3b0 := eq_true c3
  have c3b1 : decide (0 ≤ (l0.length : Int)) = true := decide_eq_true c3
  clear c3
  by_cases c4 : ((l0.length : Int) : Int).toNat ≤ 281474976710656
  ·rw [if_pos c4] at H
   have c4b0 := eq_true c4
   have c4b1 : decide (((l0.length : Int) : Int).toNat ≤ 281474976710656) = true := decide_eq_true c4
   clear c4
   obtain ⟨y267, hy267⟩ : ∃ y_ : List Bool, y_ = (List.replicate ((l0.length : Int) : Int).toNat false) := ⟨_, rfl⟩
   replace H : (if 0 ≤ a1 then (if a1 < (y267.length : Int) then (impl_reached.l0 k l0 (y267.set (a1 : Int).toNat true) (([a1] : List Int))) else (none)) else (none)) = some r := by first | (rw [hy267]; with_reducible exact H) | (have H2_ := (Option.bind_some _ _).symm.trans H; rw [hy267]; with_reducible exact H2_) | (have H2_ := (Option.bind_some _ _).symm.trans H; with_reducible exact H2_) | with_reducible exact H | (rw [hy267]; exact H) | exact H
   have Ny267 := Am hy267
   clear hy267
   by_cases c5 : 0 ≤ a1
   ·rw [if_pos c5] at H
    have c5b0 : decide (0 ≤ a1) = true := decide_eq_true c5
    clear c5
    by_cases c6 : a1 < (y267.length : Int)
    ·rw [if_pos c6] at H
     have c6b0 : decide (a1 < (y267.length : Int)) = true := decide_eq_true c6
     clear c6
     obtain ⟨y270, hy270⟩ : ∃ y_ : List Bool, y_ = (y267.set (a1 : Int).toNat true) := ⟨_, rfl⟩
     replace H : (impl_reached.l0 k l0 y270 (([a1] : List Int))) = some r := by first | (rw [hy270]; with_reducible exact H) | (have H2_ := (Option.bind_some _ _).symm.trans H; rw [hy270]; with_reducible exact H2_) | (have H2_ := (Option.bind_some _ _).symm.trans H; with_reducible exact H2_) | with_reducible exact H | (rw [hy270]; exact H) | exact H
     have Ny270 := Am hy270
     clear hy270
     obtain ⟨y271, hy271⟩ : ∃ y_ : List Int, y_ = (([a1] : List Int)) := ⟨_, rfl⟩
     replace H : (impl_reached.l0 k l0 y270 y271) = some r := by first | (rw [hy271]; with_reducible exact H) | (have H2_ := (Option.bind_some _ _).symm.trans H; rw [hy271]; with_reducible exact H2_) | (have H2_ := (Option.bind_some _ _).symm.trans H; with_reducible exact H2_) | with_reducible exact H | (rw [hy271]; exact H) | exact H
     have Ny271 := Am hy271
     clear hy271
     have H' := Am H
     clear H
     go_enter Try.func58, Try.ntmps58
     go_wp2_with (first | ((refine Gd (N := 14) rfl ?_); refine Kd.R_make Kd.bool _ 4 rfl (N := 14) rfl 129 _ _ rfl (l0.length : Int) rfl rfl Try.underlying129 (.bool false) 1 info4 rfl (by decide) (by omega) false (ok := fun _ => True) (okp := fun _ => True) rfl (fun _ hk => hk) trivial (of_decide_eq_true (by assumption)) (Nat.le_trans (Nat.mul_le_mul_right _ (of_decide_eq_true (by assumption) : (l0.length : Int).toNat ≤ 281474976710656)) (by omega)) (Below.refl _ _) (Nat.le_refl _) ?_; intro v268 w8 ho9 hb hg_ hnew_; clear hg_ hnew_; (first | rw [← Ny267.out] at ho9 | (simp only [Int.reduceToNat] at ho9; rw [← Ny267.out] at ho9)); have n0_ := Am (Kd.R_lower ho9 (Bz (by repeat (first | exact HB.out | apply Ba | apply Bn | apply Bd)))); have n1_ := Am (Bt (by repeat (first | exact HB.out | apply Ba | apply Bn | apply Bd)) hb); clear HB; have HO269 := n0_; have HB := n1_; clear n0_ n1_; clear hb ho9; have p7 : 0 ≤ (a1 : Int) := of_decide_eq_true (by assumption); have q7 : (a1 : Int) < ((y267.length : Int) : Int) := of_decide_eq_true (by assumption); obtain ⟨go7, co7, eo7, gb7, gl7, cl7, HG7⟩ := Kd.R_form HO269.out (by omega); (first | cases eo7 | (injection eo7 with ea_ en_ ec_; (first | subst ea_ | (injection ea_ with ea_; subst ea_)); subst ec_; clear en_)); have GB7 := Am gb7; have GG7 := Am HG7; clear gb7 gl7 HG7; obtain ⟨hx7_0, hf7_0⟩ := Kd.R_celln false HO269.out (a1 : Int) p7 q7; replace p7 := eq_true p7; replace q7 := eq_true q7; obtain ⟨hy10_, hz10_⟩ := Kd.R_celln false HO269.out (a1 : Int) (of_decide_eq_true (by assumption)) (of_decide_eq_true (by assumption)); have HP10 := Kd.R_putg HO269.out (a1 : Int) true) | ((refine Gs (t := 4) (p := 17) rfl ?_); refine store_event (t := 4) (p := 17) (v := ?vo_w11) (w1 := (w8.setCell ⟨go7, (a1 : Int).toNat, none⟩ (.bool true))) ?hg ?ho ?hn ?hr ?_; (case ho => rfl); (case hg => rfl); (case hn => rfl); (case hr => first | (go_simp; done) | (go_simp; rfl)); intro w11 hw; have hg : w8.grownBy w11 (some go7) := (by rw [hw]; exact HP10.2); have hp_ : Kd.R Kd.bool 4 w11 w.heap.size (fun _ => True) (.slice (some ⟨go7, 0, none⟩) y267.length co7) y270 := (by rw [hw, Ny270.out]; exact HP10.1); clear HP10; have n0_ := Am (hp_); have n1_ := Am ((by rw [hw]; exact Bs (HB.out) GB7.out : Below w.heap.size w w11)); clear HO269; clear HB; have HO269 := n0_; have HB := n1_; clear n0_ n1_; clear hg hw hp_) | ((refine Gd (N := 19) rfl ?_); refine Kd.R_lit (Kd.int .i64) _ 3 ?hg (N := 19) ?hd (xs := ([a1] : List Int)) (inner := [.int .i64 a1]) (ok := fun _ => True) (okp := fun _ => True) ?hr ?hp (fun _ hk => hk) trivial (Below.refl _ _) (Nat.le_refl _) (by simp) ?_; (case hd | hg => rfl); (case hr => first | (go_simp; done) | (go_simp; rfl)); (case hp => exact (Reps.one (show Kd.M (Kd.int .i64) _ _ _ a1 [.int .i64 a1] from rfl) (Reps.none _ _))); intro v272 w12 ho13 hb hg_ hnew_; clear hg_ hnew_; (first | rw [← Ny271.out] at ho13 | (simp only [Int.reduceToNat] at ho13; rw [← Ny271.out] at ho13)); have n0_ := Am (Kd.R_below (by (with_reducible repeat (first | apply Ra | apply Rn | apply Rd)); exact HO269.out) hb); have n1_ := Am (Kd.R_lower ho13 (Bz (by repeat (first | exact HB.out | apply Ba | apply Bn | apply Bd)))); have n2_ := Am (Bt (by repeat (first | exact HB.out | apply Ba | apply Bn | apply Bd)) hb); clear HO269; clear HB; have HO269 := n0_; have HO273 := n1_; have HB := n2_; clear n0_ n1_ n2_; clear hb ho13))
     go_loopg [6] k (fun kq v6 w' => ∃ (x5_1 : List Bool) (x6_1 : List Int), Ad (impl_reached.l0 kq l0 x5_1 x6_1 = some r) ∧ Ad (kq ≤ k) ∧ Ad (Kd.R Kd.bool 4 w' w.heap.size (fun _ => True) (.slice (some ⟨go7, 0, none⟩) y267.length co7) x5_1) ∧ Ad (Kd.Q (Kd.int .i64) 3 w' w.heap.size (fun _ => True) v6 x6_1) ∧ Ad (Below w.heap.size w w'))
     case atStart => exact ⟨(y270), (y271), H', ⟨Nat.le_refl _⟩, ⟨by (with_reducible repeat (first | apply Ra | apply Rn | apply Rd)); exact HO269.out⟩, ⟨Kd.Q_of_R (by (with_reducible repeat (first | apply Ra | apply Rn | apply Rd)); exact HO273.out)⟩, ⟨by repeat (first | exact HB.out | apply Ba | apply Bn | apply Bd)⟩⟩
     case round =>
      clear H'
      try clear p2
      try clear c3
      try clear c3b0
      try clear c3b1
      try clear c4
      try clear c4b0
      try clear c4b1
      try clear c5
      try clear c5b0
      try clear c6
      try clear c6b0
      try clear p7
      try clear q7
      try clear hx7
      try clear hf7
      try clear hx7_0
      try clear p7
      try clear q7
      obtain ⟨x5_1, x6_1, HA, HK1, HO_5, HO_6, HB⟩ := hrel
      have hl5_1 := (Kd.R_reads' HO_5.out).1
      rw [hl5_1] at HO_5
      (try simp only [hl5_1])
      (try simp only [hl5_1] at HO_6)
      cases gk with
      | zero => exact absurd HA.out (by simp [impl_reached.l0])
      | succ k1 =>
       have H := HA.out
       clear HA
       simp only [impl_reached.l0] at H
       by_cases c14 : (x6_1.length : Int) > 0
       ·rw [if_pos c14] at H
        have c14b0 : decide (0 < (x6_1.length : Int)) = true := decide_eq_true c14
        have c14b1 : decide (0 < x6_1.length) = true := decide_eq_true (by omega)
        clear c14
        by_cases c15 : 0 < (x6_1.length : Int)
        ·rw [if_pos c15] at H
         have c15b0 : decide (0 < (x6_1.length : Int)) = true := decide_eq_true c15
         have c15b1 : decide (0 < x6_1.length) = true := decide_eq_true (by omega)
         clear c15
         by_cases c16 : 0 ≤ (rd x6_1 0)
         ·rw [if_pos c16] at H
          have c16b0 : decide (0 ≤ (rd x6_1 0)) = true := decide_eq_true c16
          clear c16
          by_cases c17 : (rd x6_1 0) < (l0.length : Int)
          ·rw [if_pos c17] at H
           have c17b0 : decide ((rd x6_1 0) < (l0.length : Int)) = true := decide_eq_true c17
           clear c17
           have H' := Am H
           clear H
           obtain ⟨Ao18, co18, eo18, _⟩ := Kd.Q_slice HO_6.out
           subst eo18
           have p274 : 0 ≤ (0 : Int) := (by omega)
           have q274 : 0 < (x6_1.length : Int) := of_decide_eq_true (by assumption)
           obtain ⟨ad274, e274, hx274_0⟩ := Kd.at_int (Kd.Q_reads' HO_6.out).2.2 0 p274 q274
           cases e274
           have qi274 : (0 < x6_1.length) = True := eq_true (by omega)
           (try rw [show ((0 : Int)).toNat = 0 from rfl] at hx274_0)
           (try rw [Addr.add_zero'] at hx274_0)
           replace p274 := eq_true p274
           replace q274 := eq_true q274
           have p275 : 0 ≤ ((rd x6_1 0) : Int) := of_decide_eq_true (by assumption)
           have q275 : (rd x6_1 0) < (l0.length : Int) := of_decide_eq_true (by assumption)
           obtain ⟨ad275, A275_0, c275_0, e275, hx275_0, hl275_0, hi275_0⟩ := at_L1 HR0.out (rd x6_1 0) p275 q275
           cases e275
           replace hx275_0 := (HB.out.cell (bl_ w _ hx275_0)).trans hx275_0
           have HR275_0 := Am hi275_0
           have HC275_0 := Am hl275_0
           clear hi275_0 hl275_0
           replace p275 := eq_true p275
           replace q275 := eq_true q275
           go_wp2
           go_loopg [6, 32] k1 (fun kq v6 v32 w' => ∃ (x5_2 : List Bool) (x6_2 : List Int) (x32_2 : Int), v32 = .int .i64 x32_2 ∧ Ad (impl_reached.l1 kq l0 x5_2 x6_2 (rd_L1 l0 (rd x6_1 0)) ((rd_L1 l0 (rd x6_1 0)).length : Int) x32_2 = some r) ∧ Ad (kq ≤ k1) ∧ Ad (Kd.R Kd.bool 4 w' w.heap.size (fun _ => True) (.slice (some ⟨go7, 0, none⟩) x5_1.length co7) x5_2) ∧ Ad (Kd.Q (Kd.int .i64) 3 w' w.heap.size (fun _ => True) v6 x6_2) ∧ Ad (Below w.heap.size w w'))
           case atStart => exact ⟨(x5_1), (x6_1), (0), (by first | rfl | (simp; done) | (simp [*]; done)), H', ⟨Nat.le_refl _⟩, ⟨by (try simp only [hl5_1]); (with_reducible repeat (first | apply Ra | apply Rn | apply Rd)); exact HO_5.out⟩, ⟨by (try simp only [hl5_1]); (with_reducible repeat (first | apply Kd.Q_alloc | apply Kd.Q_drewN | apply Kd.Q_drew)); exact HO_6.out⟩, ⟨by repeat (first | exact HB.out | apply Ba | apply Bn | apply Bd)⟩⟩
           case round =>
            clear H'
            try clear c1
            try clear c2
            try clear p2
            try clear q2
            try clear hx2
            try clear qi2
            try clear c3
            try clear c3b0
            try clear c3b1
            try clear c4
            try clear c4b0
            try clear c4b1
            try clear c5
            try clear c5b0
            try clear c6
            try clear c6b0
            try clear p7
            try clear q7
            try clear hx7
            try clear hf7
            try clear c14
            try clear c14b0
            try clear c14b1
            try clear c15
            try clear c15b0
            try clear c15b1
            try clear c16
            try clear c16b0
            try clear c17
            try clear c17b0
            try clear hx274_0
            try clear hx275_0
            try clear hx7_0
            try clear p2
            try clear p274
            try clear p275
            try clear p7
            try clear q274
            try clear q275
            try clear q7
            obtain ⟨x5_2, x6_2, x32_2, rfl, HA, HK2, HO_5, HO_6, HB⟩ := hrel
            have hl5_2 := (Kd.R_reads' HO_5.out).1
            rw [hl5_2] at HO_5
            (try simp only [hl5_2])
            (try simp only [hl5_2] at HO_6)
            cases gk with
            | zero => exact absurd HA.out (by simp [impl_reached.l1])
            | succ k2 =>
             have H := HA.out
             clear HA
             simp only [impl_reached.l1] at H
             by_cases c19 : x32_2 < ((rd_L1 l0 (rd x6_1 0)).length : Int)
             ·rw [if_pos c19] at H
              have c19b0 : decide (x32_2 < ((rd_L1 l0 (rd x6_1 0)).length : Int)) = true := decide_eq_true c19
              clear c19
              by_cases c20 : 0 ≤ x32_2
              ·rw [if_pos c20] at H
               have c20b0 : decide (0 ≤ x32_2) = true := decide_eq_true c20
               clear c20
               by_cases c21 : x32_2 < ((rd_L1 l0 (rd x6_1 0)).length : Int)
               ·rw [if_pos c21] at H
                have c21b0 : decide (x32_2 < ((rd_L1 l0 (rd x6_1 0)).length : Int)) = true := decide_eq_true c21
                clear c21
                by_cases c22 : 0 ≤ (rd (rd_L1 l0 (rd x6_1 0)) x32_2)
                ·rw [if_pos c22] at H
                 have c22b0 : decide (0 ≤ (rd (rd_L1 l0 (rd x6_1 0)) x32_2)) = true := decide_eq_true c22
                 clear c22
                 by_cases c23 : (rd (rd_L1 l0 (rd x6_1 0)) x32_2) < (x5_2.length : Int)
                 ·rw [if_pos c23] at H
                  have c23b0 : decide ((rd (rd_L1 l0 (rd x6_1 0)) x32_2) < (x5_2.length : Int)) = true := decide_eq_true c23
                  clear c23
                  obtain ⟨bq24, hbq24⟩ : ∃ b_ : Bool, b_ = (rdOf false x5_2 (rd (rd_L1 l0 (rd x6_1 0)) x32_2)) := ⟨_, rfl⟩
                  replace H : (if (bq24 = true) then (impl_reached.l1 k2 l0 x5_2 x6_2 (rd_L1 l0 (rd x6_1 0)) ((rd_L1 l0 (rd x6_1 0)).length : Int) (wrap64 (x32_2 + 1))) else (if x6_2.length < 17592186044416 then (impl_reached.l1 k2 l0 (x5_2.set ((rd (rd_L1 l0 (rd x6_1 0)) x32_2) : Int).toNat true) (x6_2 ++ [rd (rd_L1 l0 (rd x6_1 0)) x32_2]) (rd_L1 l0 (rd x6_1 0)) ((rd_L1 l0 (rd x6_1 0)).length : Int) (wrap64 (x32_2 + 1))) else (none))) = some r := by rw [← hbq24] at H; exact H
                  have Nbq24 := Am hbq24
                  clear hbq24
                  by_cases c25 : (bq24 = true)
                  ·subst c25
                   have H1 : (impl_reached.l1 k2 l0 x5_2 x6_2 (rd_L1 l0 (rd x6_1 0)) ((rd_L1 l0 (rd x6_1 0)).length : Int) (wrap64 (x32_2 + 1))) = some r := by rw [if_pos rfl] at H; exact H
                   clear H
                   have H := H1
                   clear H1
                   have H' := Am H
                   clear H
                   have p276 : 0 ≤ (x32_2 : Int) := of_decide_eq_true (by assumption)
                   have q276 : x32_2 < ((rd_L1 l0 (rd x6_1 0)).length : Int) := of_decide_eq_true (by assumption)
                   obtain ⟨ad276, e276, hx276_0⟩ := Kd.at_int HR275_0.out x32_2 p276 q276
                   cases e276
                   replace hx276_0 := (HB.out.cell (bl_ w _ hx276_0)).trans hx276_0
                   replace p276 := eq_true p276
                   replace q276 := eq_true q276
                   have p277 : 0 ≤ ((rd (rd_L1 l0 (rd x6_1 0)) x32_2) : Int) := of_decide_eq_true (by assumption)
                   have q277 : (rd (rd_L1 l0 (rd x6_1 0)) x32_2) < (x5_2.length : Int) := of_decide_eq_true (by assumption)
                   obtain ⟨ad277, e277, hx277_0⟩ := Kd.at_bool (Kd.R_reads' HO_5.out).2.2 (rd (rd_L1 l0 (rd x6_1 0)) x32_2) p277 q277
                   (try rw [← Nbq24.out] at hx277_0)
                   obtain rfl : (⟨go7, 0, none⟩ : Addr) = ad277 := (by injection e277)
                   (first | simp only [add_plain] at hx277_0 | simp only [add_at] at hx277_0 | simp only [Addr.add, Nat.zero_add] at hx277_0 | skip)
                   replace p277 := eq_true p277
                   replace q277 := eq_true q277
                   go_wp2
                   (try simp only [← hl5_2])
                   go_roundg k2
                   case measure => have := HK1.out; have := HK2.out; omega
                   case rel => exact ⟨(x5_2), (x6_2), (wrap64 (x32_2 + 1)), (by first | rfl | (simp; done) | (simp [*]; done)), H', ⟨by have := HK1.out; have := HK2.out; omega⟩, ⟨by (try simp only [hl5_1]); (try simp only [hl5_2]); (with_reducible repeat (first | apply Ra | apply Rn | apply Rd)); exact HO_5.out⟩, ⟨by (try simp only [hl5_1]); (try simp only [hl5_2]); (with_reducible repeat (first | apply Kd.Q_alloc | apply Kd.Q_drewN | apply Kd.Q_drew)); exact HO_6.out⟩, ⟨by repeat (first | exact HB.out | apply Ba | apply Bn | apply Bd)⟩⟩
                  ·replace c25 := Bool.eq_false_iff.mpr c25
                   subst c25
                   have H1 : (if x6_2.length < 17592186044416 then (impl_reached.l1 k2 l0 (x5_2.set ((rd (rd_L1 l0 (rd x6_1 0)) x32_2) : Int).toNat true) (x6_2 ++ [rd (rd_L1 l0 (rd x6_1 0)) x32_2]) (rd_L1 l0 (rd x6_1 0)) ((rd_L1 l0 (rd x6_1 0)).length : Int) (wrap64 (x32_2 + 1))) else (none)) = some r := by rw [if_neg (show ¬ (false = true) by decide)] at H; exact H
                   clear H
                   have H := H1
                   clear H1
                   obtain ⟨y278, hy278⟩ : ∃ y_ : List Bool, y_ = (x5_2.set ((rd (rd_L1 l0 (rd x6_1 0)) x32_2) : Int).toNat true) := ⟨_, rfl⟩
                   replace H : (if x6_2.length < 17592186044416 then (impl_reached.l1 k2 l0 y278 (x6_2 ++ [rd (rd_L1 l0 (rd x6_1 0)) x32_2]) (rd_L1 l0 (rd x6_1 0)) ((rd_L1 l0 (rd x6_1 0)).length : Int) (wrap64 (x32_2 + 1))) else (none)) = some r := by first | (rw [hy278]; with_reducible exact H) | (have H2_ := (Option.bind_some _ _).symm.trans H; rw [hy278]; with_reducible exact H2_) | (have H2_ := (Option.bind_some _ _).symm.trans H; with_reducible exact H2_) | with_reducible exact H | (rw [hy278]; exact H) | exact H
                   have Ny278 := Am hy278
                   clear hy278
                   by_cases c27 : x6_2.length < 17592186044416
                   ·rw [if_pos c27] at H
                    have LMc27 := Am c27
                    clear c27
                    obtain ⟨y279, hy279⟩ : ∃ y_ : List Int, y_ = (x6_2 ++ [rd (rd_L1 l0 (rd x6_1 0)) x32_2]) := ⟨_, rfl⟩
                    replace H : (impl_reached.l1 k2 l0 y278 y279 (rd_L1 l0 (rd x6_1 0)) ((rd_L1 l0 (rd x6_1 0)).length : Int) (wrap64 (x32_2 + 1))) = some r := by first | (rw [hy279]; with_reducible exact H) | (have H2_ := (Option.bind_some _ _).symm.trans H; rw [hy279]; with_reducible exact H2_) | (have H2_ := (Option.bind_some _ _).symm.trans H; with_reducible exact H2_) | with_reducible exact H | (rw [hy279]; exact H) | exact H
                    have Ny279 := Am hy279
                    clear hy279
                    have H' := Am H
                    clear H
                    have p276 : 0 ≤ (x32_2 : Int) := of_decide_eq_true (by assumption)
                    have q276 : x32_2 < ((rd_L1 l0 (rd x6_1 0)).length : Int) := of_decide_eq_true (by assumption)
                    obtain ⟨ad276, e276, hx276_0⟩ := Kd.at_int HR275_0.out x32_2 p276 q276
                    cases e276
                    replace hx276_0 := (HB.out.cell (bl_ w _ hx276_0)).trans hx276_0
                    replace p276 := eq_true p276
                    replace q276 := eq_true q276
                    have p277 : 0 ≤ ((rd (rd_L1 l0 (rd x6_1 0)) x32_2) : Int) := of_decide_eq_true (by assumption)
                    have q277 : (rd (rd_L1 l0 (rd x6_1 0)) x32_2) < (x5_2.length : Int) := of_decide_eq_true (by assumption)
                    obtain ⟨ad277, e277, hx277_0⟩ := Kd.at_bool (Kd.R_reads' HO_5.out).2.2 (rd (rd_L1 l0 (rd x6_1 0)) x32_2) p277 q277
                    (try rw [← Nbq24.out] at hx277_0)
                    obtain rfl : (⟨go7, 0, none⟩ : Addr) = ad277 := (by injection e277)
                    (first | simp only [add_plain] at hx277_0 | simp only [add_at] at hx277_0 | simp only [Addr.add, Nat.zero_add] at hx277_0 | skip)
                    replace p277 := eq_true p277
                    replace q277 := eq_true q277
                    have p26 : 0 ≤ ((rd (rd_L1 l0 (rd x6_1 0)) x32_2) : Int) := of_decide_eq_true (by assumption)
                    have q26 : ((rd (rd_L1 l0 (rd x6_1 0)) x32_2) : Int) < ((x5_2.length : Int) : Int) := of_decide_eq_true (by assumption)
                    obtain ⟨hx26_0, hf26_0⟩ := Kd.R_celln false HO_5.out ((rd (rd_L1 l0 (rd x6_1 0)) x32_2) : Int) p26 q26
                    replace p26 := eq_true p26
                    replace q26 := eq_true q26
                    have HP28 := Kd.R_putg HO_5.out ((rd (rd_L1 l0 (rd x6_1 0)) x32_2) : Int) true
                    go_wp2_with (first | ((refine Gs (t := 4) (p := 43) rfl ?_); refine store_event (t := 4) (p := 43) (v := ?vo_w29) (w1 := (wr.setCell ⟨go7, ((rd (rd_L1 l0 (rd x6_1 0)) x32_2) : Int).toNat, none⟩ (.bool true))) ?hg ?ho ?hn ?hr ?_; (case ho => rfl); (case hg => rfl); (case hn => rfl); (case hr => first | (go_simp; done) | (go_simp; rfl)); intro w29 hw; have hg : wr.grownBy w29 (some go7) := (by rw [hw]; exact HP28.2); have hp_ : Kd.R Kd.bool 4 w29 w.heap.size (fun _ => True) (.slice (some ⟨go7, 0, none⟩) x5_2.length co7) y278 := (by rw [hw, Ny278.out]; exact HP28.1); clear HP28; have n0_ := Am (hp_); have n1_ := Am (Kd.Q_over' (v := (.slice (some ⟨go7, 0, none⟩) x5_2.length co7)) (by (with_reducible repeat (first | apply Kd.Q_alloc | apply Kd.Q_drewN | apply Kd.Q_drew)); exact HO_6.out) (Kd.R_typed HO_5.out) (by decide) hg); have n2_ := Am ((by rw [hw]; exact Bs (HB.out) GB7.out : Below w.heap.size w w29)); clear HO_5; clear HO_6; clear HB; have HO_5 := n0_; have HO_6 := n1_; have HB := n2_; clear n0_ n1_ n2_; clear hg hw hp_) | ((with_reducible refine gate_builtin (b := .append) (xs := #[.tmp 44, .tmp 46]) rfl ?_); at_builtin; refine Kd.Q_append (Kd.int .i64) (w0 := w) w.heap.size rfl (.tmp 44) (.tmp 46) 23 3 (.int .i64 0) 8 rfl Try.underlying23 info3 rfl (by decide) (by omega) u6 x6_2 (rd (rd_L1 l0 (rd x6_1 0)) x32_2) [.int .i64 (rd (rd_L1 l0 (rd x6_1 0)) x32_2)] (fun _ => True) (fun _ => False) rfl rfl ?aP (fun _ hk => hk.elim) ?aF ?aO ?aB ?aS ?aL ?_; (case aP => exact rfl); (case aB => exact (by repeat (first | exact HB.out | apply Ba | apply Bn | apply Bd))); (case aF => exact (fun _ _ => trivial)); (case aO => exact (by (with_reducible repeat (first | apply Kd.Q_alloc | apply Kd.Q_drewN | apply Kd.Q_drew)); exact HO_6.out)); (case aS => exact (Bz (by repeat (first | exact HB.out | apply Ba | apply Bn | apply Bd)))); (case aL => have := LMc27.out; omega); intro v280 w30 ho hb hg hat; rw [← Ny279.out] at ho; have n0_ := Am (Kd.R_over' (by (with_reducible repeat (first | apply Ra | apply Rn | apply Rd)); exact HO_5.out) (Kd.Q_typed (by (with_reducible repeat (first | apply Kd.Q_alloc | apply Kd.Q_drewN | apply Kd.Q_drew)); exact HO_6.out)) (by decide) hg); have n1_ := Am (hb); have n2_ := Am (ho); clear HO_5; clear HB; clear HO_6; have HO_5 := n0_; have HB := n1_; have HO281 := n2_; clear n0_ n1_ n2_; clear ho hb hg hat))
                    (try simp only [← hl5_2])
                    go_roundg k2
                    case measure => have := HK1.out; have := HK2.out; omega
                    case rel => exact ⟨(y278), (y279), (wrap64 (x32_2 + 1)), (by first | rfl | (simp; done) | (simp [*]; done)), H', ⟨by have := HK1.out; have := HK2.out; omega⟩, ⟨by (try simp only [hl5_1]); (try simp only [hl5_2]); (with_reducible repeat (first | apply Ra | apply Rn | apply Rd)); exact HO_5.out⟩, ⟨by (try simp only [hl5_1]); (try simp only [hl5_2]); (with_reducible repeat (first | apply Kd.Q_alloc | apply Kd.Q_drewN | apply Kd.Q_drew)); exact HO281.out⟩, ⟨by repeat (first | exact HB.out | apply Ba | apply Bn | apply Bd)⟩⟩
                   ·rw [if_neg c27] at H
                    exact absurd H (by simp)
                 ·rw [if_neg c23] at H
                  exact absurd H (by simp)
                ·rw [if_neg c22] at H
                 exact absurd H (by simp)
               ·rw [if_neg c21] at H
                exact absurd H (by simp)
              ·rw [if_neg c20] at H
               exact absurd H (by simp)
             ·rw [if_neg c19] at H
              have c19b0 : decide (x32_2 < ((rd_L1 l0 (rd x6_1 0)).length : Int)) = false := decide_eq_false c19
              clear c19
              by_cases c31 : 1 ≤ (x6_2.length : Int)
              ·rw [if_pos c31] at H
               have c31b0 := eq_true c31
               have c31b1 : decide (1 ≤ (x6_2.length : Int)) = true := decide_eq_true c31
               clear c31
               obtain ⟨y282, hy282⟩ : ∃ y_ : List Int, y_ = (x6_2.drop (1 : Int).toNat) := ⟨_, rfl⟩
               replace H : (impl_reached.l0 k2 l0 x5_2 y282) = some r := by first | (rw [hy282]; with_reducible exact H) | (have H2_ := (Option.bind_some _ _).symm.trans H; rw [hy282]; with_reducible exact H2_) | (have H2_ := (Option.bind_some _ _).symm.trans H; with_reducible exact H2_) | with_reducible exact H | (rw [hy282]; exact H) | exact H
               have Ny282 := Am hy282
               clear hy282
               have H' := Am H
               clear H
               obtain ⟨Ao32, co32, eo32, _⟩ := Kd.Q_slice HO_6.out
               subst eo32
               have q33 : (1 : Int) ≤ ((x6_2.length : Int) : Int) := of_decide_eq_true (by assumption)
               obtain ⟨i033, hi033, _, hsz33, _⟩ := info_parts info3
               have hcut33 := cut_from (P := Try.prog) 23 3 .i64 Try.underlying23 hi033 1 hsz33 Ao32 x6_2.length co32 1 (by omega) q33
               have hr33 := Kd.Q_drop (k := (1 : Int).toNat) HO_6.out (by omega)
               obtain ⟨A33, hA33⟩ : ∃ A1, A1 = (if co32 = (1 : Int).toNat then Ao32 else (Ao32 : Option Addr).map (·.add ((1 : Int).toNat * 1))) := ⟨_, rfl⟩
               obtain ⟨c33, hc33⟩ : ∃ c1, c1 = co32 - (1 : Int).toNat := ⟨_, rfl⟩
               have hy33 : y282.length = x6_2.length - (1 : Int).toNat := (by rw [Ny282.out, List.length_drop])
               rw [← Ny282.out] at hr33
               rw [← hy33, ← hA33, ← hc33] at hcut33
               replace hr33 : Kd.Q (Kd.int .i64) 3 wr w.heap.size (fun _ => True) (.slice A33 y282.length c33) y282 := (by rw [hA33, hc33, hy33]; exact hr33)
               have HE33 : Ad ((Value.slice A33 y282.length c33).ownBlock = (.slice Ao32 x6_2.length co32 : Value).ownBlock) := ⟨by rw [hA33]; split <;> (cases (Ao32 : Option Addr) <;> rfl)⟩
               clear hy33 hi033 hsz33 HO_6 hA33 hc33
               have HO284 := Am hr33
               clear hr33
               replace q33 := eq_true q33
               go_wp2
               (try simp only [← hl5_1, ← hl5_2])
               go_roundg k2
               case measure => have := HK1.out; have := HK2.out; omega
               case rel => exact ⟨(x5_2), (y282), H', ⟨by have := HK1.out; have := HK2.out; omega⟩, ⟨by (try simp only [hl5_1]); (try simp only [hl5_2]); (with_reducible repeat (first | apply Ra | apply Rn | apply Rd)); exact HO_5.out⟩, ⟨by (try simp only [hl5_1]); (try simp only [hl5_2]); (with_reducible repeat (first | apply Kd.Q_alloc | apply Kd.Q_drewN | apply Kd.Q_drew)); exact HO284.out⟩, ⟨by repeat (first | exact HB.out | apply Ba | apply Bn | apply Bd)⟩⟩
              ·rw [if_neg c31] at H
               exact absurd H (by simp)
          ·rw [if_neg c17] at H
           exact absurd H (by simp)
         ·rw [if_neg c16] at H
          exact absurd H (by simp)
        ·rw [if_neg c15] at H
         exact absurd H (by simp)
       ·rw [if_neg c14] at H
        have c14b0 : decide (0 < (x6_1.length : Int)) = false := decide_eq_false c14
        have c14b1 : decide (0 < x6_1.length) = false := decide_eq_false (by omega)
        clear c14
        obtain ⟨y285, hy285⟩ : ∃ y_ : List Int, y_ = (([] : List Int)) := ⟨_, rfl⟩
        replace H : (impl_reached.l2 k1 y285 x5_1 (x5_1.length : Int) 0) = some r := by first | (rw [hy285]; with_reducible exact H) | (have H2_ := (Option.bind_some _ _).symm.trans H; rw [hy285]; with_reducible exact H2_) | (have H2_ := (Option.bind_some _ _).symm.trans H; with_reducible exact H2_) | with_reducible exact H | (rw [hy285]; exact H) | exact H
        have Ny285 := Am hy285
        clear hy285
        have H' := Am H
        clear H
        obtain ⟨Ao34, co34, eo34, _⟩ := Kd.Q_slice HO_6.out
        subst eo34
        go_wp2_with (first | ((refine Gd (N := 49) rfl ?_); refine Kd.R_lit (Kd.int .i64) _ 3 ?hg (N := 49) ?hd (xs := ([] : List Int)) (inner := []) (ok := fun _ => True) (okp := fun _ => True) ?hr ?hp (fun _ hk => hk) trivial (Below.refl _ _) (Nat.le_refl _) (by simp) ?_; (case hd | hg => rfl); (case hr => first | (go_simp; done) | (go_simp; rfl)); (case hp => exact (Reps.none _ _)); intro v286 w35 ho36 hb hg_ hnew_; clear hg_ hnew_; (first | rw [← Ny285.out] at ho36 | (simp only [Int.reduceToNat] at ho36; rw [← Ny285.out] at ho36)); have n0_ := Am (Kd.R_below (by (with_reducible repeat (first | apply Ra | apply Rn | apply Rd)); exact HO_5.out) hb); have n1_ := Am (Kd.Q_elder' (by (with_reducible repeat (first | apply Kd.Q_alloc | apply Kd.Q_drewN | apply Kd.Q_drew)); exact HO_6.out) (Kd.R_base ho36) hb); have n2_ := Am (Kd.R_lower (Kd.R_new' ho36 (Kd.Q_lt (by (with_reducible repeat (first | apply Kd.Q_alloc | apply Kd.Q_drewN | apply Kd.Q_drew)); exact HO_6.out))) (Bz (by repeat (first | exact HB.out | apply Ba | apply Bn | apply Bd)))); have n3_ := Am (Bt (by repeat (first | exact HB.out | apply Ba | apply Bn | apply Bd)) hb); clear HO_5; clear HO_6; clear HB; have HO_5 := n0_; have HO_6 := n1_; have HO287 := n2_; have HB := n3_; clear n0_ n1_ n2_ n3_; clear hb ho36))
        go_loopg [9, 52] k1 (fun kq v9 v52 w' => ∃ (x9_2 : List Int) (x52_2 : Int), v52 = .int .i64 x52_2 ∧ Ad (impl_reached.l2 kq x9_2 x5_1 (x5_1.length : Int) x52_2 = some r) ∧ Ad (kq ≤ k1) ∧ Ad (Kd.R (Kd.int .i64) 3 w' w.heap.size (fun _ => True) v9 x9_2) ∧ Ad (Kd.R Kd.bool 4 w' w.heap.size (fun _ => True) (.slice (some ⟨go7, 0, none⟩) x5_1.length co7) x5_1) ∧ Ad (Below w.heap.size w w'))
        case atStart => exact ⟨(y285), (0), (by first | rfl | (simp; done) | (simp [*]; done)), H', ⟨Nat.le_refl _⟩, ⟨by (try simp only [hl5_1]); (with_reducible repeat (first | apply Ra | apply Rn | apply Rd)); exact Kd.R_mono HO287.out (fun _ hk => trivial)⟩, ⟨by (try simp only [hl5_1]); (with_reducible repeat (first | apply Ra | apply Rn | apply Rd)); exact HO_5.out⟩, ⟨by repeat (first | exact HB.out | apply Ba | apply Bn | apply Bd)⟩⟩
        case round =>
         clear H'
         try clear c1
         try clear c2
         try clear p2
         try clear q2
         try clear hx2
         try clear qi2
         try clear hf2
         try clear c3
         try clear c3b0
         try clear c3b1
         try clear q3
         try clear c4
         try clear c4b0
         try clear c4b1
         try clear c5
         try clear c5b0
         try clear c6
         try clear c6b0
         try clear p6
         try clear p7
         try clear q7
         try clear hx7
         try clear hf7
         try clear c14
         try clear c14b0
         try clear c14b1
         try clear c15
         try clear c15b0
         try clear c15b1
         try clear c16
         try clear c16b0
         try clear c17
         try clear c17b0
         try clear c19
         try clear c19b0
         try clear c20
         try clear c20b0
         try clear c21
         try clear c21b0
         try clear c22
         try clear c22b0
         try clear c23
         try clear c23b0
         try clear q24
         try clear c25
         try clear p26
         try clear q26
         try clear hx26
         try clear hf26
         try clear c27
         try clear p27
         try clear q27
         try clear hx27
         try clear qi27
         try clear c31
         try clear c31b0
         try clear c31b1
         try clear c33
         try clear q33
         try clear hx26_0
         try clear hx274_0
         try clear hx275_0
         try clear hx276_0
         try clear hx277_0
         try clear hx7_0
         try clear p2
         try clear p26
         try clear p274
         try clear p275
         try clear p276
         try clear p277
         try clear p7
         try clear q2
         try clear q26
         try clear q274
         try clear q275
         try clear q276
         try clear q277
         try clear q33
         try clear q7
         obtain ⟨x9_2, x52_2, rfl, HA, HK2, HO_9, HO_50, HB⟩ := hrel
         cases gk with
         | zero => exact absurd HA.out (by simp [impl_reached.l2])
         | succ k2 =>
          have H := HA.out
          clear HA
          simp only [impl_reached.l2] at H
          by_cases c37 : x52_2 < (x5_1.length : Int)
          ·rw [if_pos c37] at H
           have c37b0 : decide (x52_2 < (x5_1.length : Int)) = true := decide_eq_true c37
           clear c37
           by_cases c38 : 0 ≤ x52_2
           ·rw [if_pos c38] at H
            have c38b0 : decide (0 ≤ x52_2) = true := decide_eq_true c38
            clear c38
            by_cases c39 : x52_2 < (x5_1.length : Int)
            ·rw [if_pos c39] at H
             have c39b0 : decide (x52_2 < (x5_1.length : Int)) = true := decide_eq_true c39
             clear c39
             obtain ⟨bq40, hbq40⟩ : ∃ b_ : Bool, b_ = (rdOf false x5_1 x52_2) := ⟨_, rfl⟩
             replace H : (if bq40 = true then (if x9_2.length < 17592186044416 then (impl_reached.l2 k2 (x9_2 ++ [x52_2]) x5_1 (x5_1.length : Int) (wrap64 (x52_2 + 1))) else (none)) else (impl_reached.l2 k2 x9_2 x5_1 (x5_1.length : Int) (wrap64 (x52_2 + 1)))) = some r := by rw [← hbq40] at H; exact H
             have Nbq40 := Am hbq40
             clear hbq40
             by_cases c41 : bq40 = true
             ·subst c41
              have H1 : (if x9_2.length < 17592186044416 then (impl_reached.l2 k2 (x9_2 ++ [x52_2]) x5_1 (x5_1.length : Int) (wrap64 (x52_2 + 1))) else (none)) = some r := by rw [if_pos rfl] at H; exact H
              clear H
              have H := H1
              clear H1
              by_cases c42 : x9_2.length < 17592186044416
              ·rw [if_pos c42] at H
               have LMc42 := Am c42
               clear c42
               obtain ⟨y289, hy289⟩ : ∃ y_ : List Int, y_ = (x9_2 ++ [x52_2]) := ⟨_, rfl⟩
               replace H : (impl_reached.l2 k2 y289 x5_1 (x5_1.length : Int) (wrap64 (x52_2 + 1))) = some r := by first | (rw [hy289]; with_reducible exact H) | (have H2_ := (Option.bind_some _ _).symm.trans H; rw [hy289]; with_reducible exact H2_) | (have H2_ := (Option.bind_some _ _).symm.trans H; with_reducible exact H2_) | with_reducible exact H | (rw [hy289]; exact H) | exact H
               have Ny289 := Am hy289
               clear hy289
               have H' := Am H
               clear H
               have p288 : 0 ≤ (x52_2 : Int) := of_decide_eq_true (by assumption)
               have q288 : x52_2 < (x5_1.length : Int) := of_decide_eq_true (by assumption)
               obtain ⟨ad288, e288, hx288_0⟩ := Kd.at_bool (Kd.R_reads' HO_50.out).2.2 x52_2 p288 q288
               (try rw [← Nbq40.out] at hx288_0)
               obtain rfl : (⟨go7, 0, none⟩ : Addr) = ad288 := (by injection e288)
               (first | simp only [add_plain] at hx288_0 | simp only [add_at] at hx288_0 | simp only [Addr.add, Nat.zero_add] at hx288_0 | skip)
               replace p288 := eq_true p288
               replace q288 := eq_true q288
               go_wp2_with (first | ((with_reducible refine gate_builtin (b := .append) (xs := #[.tmp 58, .tmp 60]) rfl ?_); at_builtin; refine Kd.R_append (Kd.int .i64) (w0 := w) w.heap.size rfl (.tmp 58) (.tmp 60) 23 3 (.int .i64 0) 8 rfl Try.underlying23 info3 rfl (by decide) (by omega) u9 x9_2 x52_2 [.int .i64 x52_2] (fun _ => True) (fun _ => False) rfl rfl ?aP (fun _ hk => hk.elim) ?aF ?aO ?aB ?aS ?aL ?_; (case aP => exact rfl); (case aB => exact (by repeat (first | exact HB.out | apply Ba | apply Bn | apply Bd))); (case aF => exact (fun _ _ => trivial)); (case aO => exact (by (with_reducible repeat (first | apply Ra | apply Rn | apply Rd)); exact HO_9.out)); (case aS => exact (Bz (by repeat (first | exact HB.out | apply Ba | apply Bn | apply Bd)))); (case aL => have := LMc42.out; omega); intro v290 w43 ho hb hg hat; rw [← Ny289.out] at ho; have n0_ := Am (Kd.R_over' (by (with_reducible repeat (first | apply Ra | apply Rn | apply Rd)); exact HO_50.out) (Kd.R_typed (by (with_reducible repeat (first | apply Ra | apply Rn | apply Rd)); exact HO_9.out)) (by decide) hg); have n1_ := Am (hb); have n2_ := Am (ho); clear HO_50; clear HB; clear HO_9; have HO_50 := n0_; have HB := n1_; have HO291 := n2_; clear n0_ n1_ n2_; clear ho hb hg hat))
               go_roundg k2
               case measure => have := HK1.out; have := HK2.out; omega
               case rel => exact ⟨(y289), (wrap64 (x52_2 + 1)), (by first | rfl | (simp; done) | (simp [*]; done)), H', ⟨by have := HK1.out; have := HK2.out; omega⟩, ⟨by (try simp only [hl5_1]); (with_reducible repeat (first | apply Ra | apply Rn | apply Rd)); exact HO291.out⟩, ⟨by (try simp only [hl5_1]); (with_reducible repeat (first | apply Ra | apply Rn | apply Rd)); exact HO_50.out⟩, ⟨by repeat (first | exact HB.out | apply Ba | apply Bn | apply Bd)⟩⟩
              ·rw [if_neg c42] at H
               exact absurd H (by simp)
             ·replace c41 := Bool.eq_false_iff.mpr c41
              subst c41
              have H1 : (impl_reached.l2 k2 x9_2 x5_1 (x5_1.length : Int) (wrap64 (x52_2 + 1))) = some r := by rw [if_neg (show ¬ (false = true) by decide)] at H; exact H
              clear H
              have H := H1
              clear H1
              have H' := Am H
              clear H
              have p288 : 0 ≤ (x52_2 : Int) := of_decide_eq_true (by assumption)
              have q288 : x52_2 < (x5_1.length : Int) := of_decide_eq_true (by assumption)
              obtain ⟨ad288, e288, hx288_0⟩ := Kd.at_bool (Kd.R_reads' HO_50.out).2.2 x52_2 p288 q288
              (try rw [← Nbq40.out] at hx288_0)
              obtain rfl : (⟨go7, 0, none⟩ : Addr) = ad288 := (by injection e288)
              (first | simp only [add_plain] at hx288_0 | simp only [add_at] at hx288_0 | simp only [Addr.add, Nat.zero_add] at hx288_0 | skip)
              replace p288 := eq_true p288
              replace q288 := eq_true q288
              go_wp2
              go_roundg k2
              case measure => have := HK1.out; have := HK2.out; omega
              case rel => exact ⟨(x9_2), (wrap64 (x52_2 + 1)), (by first | rfl | (simp; done) | (simp [*]; done)), H', ⟨by have := HK1.out; have := HK2.out; omega⟩, ⟨by (try simp only [hl5_1]); (with_reducible repeat (first | apply Ra | apply Rn | apply Rd)); exact HO_9.out⟩, ⟨by (try simp only [hl5_1]); (with_reducible repeat (first | apply Ra | apply Rn | apply Rd)); exact HO_50.out⟩, ⟨by repeat (first | exact HB.out | apply Ba | apply Bn | apply Bd)⟩⟩
            ·rw [if_neg c39] at H
             exact absurd H (by simp)
           ·rw [if_neg c38] at H
            exact absurd H (by simp)
          ·rw [if_neg c37] at H
           have c37b0 : decide (x52_2 < (x5_1.length : Int)) = false := decide_eq_false c37
           clear c37
           obtain rfl := Option.some.inj H
           go_wp2
           go_ret
           exact ⟨_, by first | rfl | (simp [*, errW_none, errW_some] <;> rfl), by (with_reducible repeat (first | apply Ra | apply Rn | apply Rd)); exact HO_9.out, by repeat (first | exact HB.out | apply Ba | apply Bn | apply Bd)⟩
    ·rw [if_neg c6] at H
     exact absurd H (by simp)
   ·rw [if_neg c5] at H
    exact absurd H (by simp)
  ·rw [if_neg c4] at H
   exact absurd H (by simp)
 ·rw [if_neg c3] at H
  exact absurd H (by simp)
def impl_components_1_1.f (k : Nat) (a0 : Int) (l1_0 : List Bool) (l2_0 : List Int) : Option (Bool) := if 0 ≤ a0 then (if a0 < (l1_0.length : Int) then (if rdOf false l1_0 a0 = true then (some false) else ((slices_Contains_int_int.f k l2_0 a0).bind fun t295 => (some (!t295)))) else (none)) else (none)
theorem impl_components_1_1.mono : ∀ a0 a1 a2 k, LeO (impl_components_1_1.f k a0 a1 a2) (impl_components_1_1.f (k + 1) a0 a1 a2) := by
 intro a0 a1 a2 k
 unfold impl_components_1_1.f
 repeat' first
   | (with_reducible exact slices_Contains_int_int.mono _ _ _)
   | (with_reducible exact LeO.refl _)
   | (with_reducible exact LeO.none _)
   | (with_reducible refine LeO.ite ?_ ?_)
   | (with_reducible refine LeO.bind ?_ (fun _ => ?_))
   | exact slices_Contains_int_int.mono _ _ _
   | exact LeO.none _
   | refine LeO.ite ?_ ?_
   | refine LeO.bind ?_ (fun _ => ?_)
set_option maxHeartbeats 8000000 in
set_option maxRecDepth 100000 in
theorem impl_components_1_1.calls (k : Nat) (a0 : Int) (gq1 : Nat) (A1_0 : Option Addr) (c1_0 : Nat) (l1_0 : List Bool) (gq2 : Nat) (A2_0 : Option Addr) (c2_0 : Nat) (l2_0 : List Int) (r : Bool) (w : World) (hr1_0 : Kd.C Kd.bool w A1_0 l1_0.length l1_0) (hc1_0 : l1_0.length ≤ c1_0) (hr2_0 : Kd.C (Kd.int .i64) w A2_0 l2_0.length l2_0) (hc2_0 : l2_0.length ≤ c2_0) (hb1 : w.heap[gq1]? = some (.cells #[.slice A1_0 l1_0.length c1_0] 129 (0, 0))) (hb2 : w.heap[gq2]? = some (.cells #[.slice A2_0 l2_0.length c2_0] 23 (0, 0))) (h : impl_components_1_1.f k a0 l1_0 l2_0 = some r) :
  Calls Try.prog 113 #[.int .i64 a0, .pointer (some ⟨gq1, 0, none⟩), .pointer (some ⟨gq2, 0, none⟩)] w fun e w' => e = .returned (.bool r) ∧ Drawn0 w w' := by
 have HR1_0 := Am hr1_0
 have HC1_0 := Am hc1_0
 clear hr1_0 hc1_0
 have HR2_0 := Am hr2_0
 have HC2_0 := Am hc2_0
 clear hr2_0 hc2_0
 have BK292 := Am hb1
 clear hb1
 have BK293 := Am hb2
 clear hb2
 have NB292_293 := Am (show gq1 ≠ gq2 from fun e_ => by have h_ := BK292.out; rw [e_, BK293.out] at h_; injection h_ with h_; injection h_ with _ h2_; exact absurd h2_ (by decide))
 have NB293_292 := Am (show gq2 ≠ gq1 from fun e_ => by have h_ := BK293.out; rw [e_, BK292.out] at h_; injection h_ with h_; injection h_ with _ h2_; exact absurd h2_ (by decide))
 have H : (if 0 ≤ a0 then (if a0 < (l1_0.length : Int) then (if rdOf false l1_0 a0 = true then (some false) else ((slices_Contains_int_int.f k l2_0 a0).bind fun t295 => (some (!t295)))) else (none)) else (none)) = some r := h
 clear h
 by_cases c4 : 0 ≤ a0
 ·rw [if_pos c4] at H
  have c4b0 : decide (0 ≤ a0) = true := decide_eq_true c4
  clear c4
  by_cases c5 : a0 < (l1_0.length : Int)
  ·rw [if_pos c5] at H
   have c5b0 : decide (a0 < (l1_0.length : Int)) = true := decide_eq_true c5
   clear c5
   obtain ⟨bq6, hbq6⟩ : ∃ b_ : Bool, b_ = (rdOf false l1_0 a0) := ⟨_, rfl⟩
   replace H : (if bq6 = true then (some false) else ((slices_Contains_int_int.f k l2_0 a0).bind fun t295 => (some (!t295)))) = some r := by rw [← hbq6] at H; exact H
   have Nbq6 := Am hbq6
   clear hbq6
   by_cases c7 : bq6 = true
   ·subst c7
    have H1 : (some false) = some r := by rw [if_pos rfl] at H; exact H
    clear H
    have H := H1
    clear H1
    obtain rfl := Option.some.inj H
    have hnb8 := NB292_293.out
    have hnc8 := NB293_292.out
    have hcz9_0 : w.cell? ⟨gq1, 0, none⟩ = some (.slice A1_0 l1_0.length c1_0) := (Kc BK292.out 0).trans rfl
    have hfz9_0 := Kz BK292.out 0
    have p294 : 0 ≤ (a0 : Int) := of_decide_eq_true (by assumption)
    have q294 : a0 < (l1_0.length : Int) := of_decide_eq_true (by assumption)
    obtain ⟨ad294, e294, hx294_0⟩ := Kd.at_bool HR1_0.out a0 p294 q294
    (try rw [← Nbq6.out] at hx294_0)
    cases e294
    replace p294 := eq_true p294
    replace q294 := eq_true q294
    go_enter Try.func113, Try.ntmps113
    go_wp2
    go_ret
    exact ⟨by first | rfl | (simp; done) | (simp [*]; done), by repeat (first | exact Drawn0.refl _ | apply Drawn0.step)⟩
   ·replace c7 := Bool.eq_false_iff.mpr c7
    subst c7
    have H1 : ((slices_Contains_int_int.f k l2_0 a0).bind fun t295 => (some (!t295))) = some r := by rw [if_neg (show ¬ (false = true) by decide)] at H; exact H
    clear H
    have H := H1
    clear H1
    replace H := Option.bind_eq_some_iff.mp H
    obtain ⟨t295, A100, H⟩ := H
    replace H : (some (!t295)) = some r := H
    have A10 := Am A100
    clear A100
    obtain rfl := Option.some.inj H
    have hnb11 := NB292_293.out
    have hnc11 := NB293_292.out
    have hcz12_0 : w.cell? ⟨gq1, 0, none⟩ = some (.slice A1_0 l1_0.length c1_0) := (Kc BK292.out 0).trans rfl
    have hfz12_0 := Kz BK292.out 0
    have p294 : 0 ≤ (a0 : Int) := of_decide_eq_true (by assumption)
    have q294 : a0 < (l1_0.length : Int) := of_decide_eq_true (by assumption)
    obtain ⟨ad294, e294, hx294_0⟩ := Kd.at_bool HR1_0.out a0 p294 q294
    (try rw [← Nbq6.out] at hx294_0)
    cases e294
    replace p294 := eq_true p294
    replace q294 := eq_true q294
    have hcz13_0 : w.cell? ⟨gq2, 0, none⟩ = some (.slice A2_0 l2_0.length c2_0) := (Kc BK293.out 0).trans rfl
    have hfz13_0 := Kz BK293.out 0
    go_enter Try.func113, Try.ntmps113
    go_wp2_with (first | (go_at_call 57; (with_reducible refine (slices_Contains_int_int.calls k _ _ l2_0 a0 t295 _ ?side1 ?side2 A10.out).mono ?_); (case side1 => repeat (first | exact HR2_0.out | (with_reducible refine Kd.C_alloc ?_ _) | (with_reducible refine Kd.C_drewN ?_ _) | (with_reducible refine Kd.C_drew ?_))); (case side2 => exact HC2_0.out); rintro e w' ⟨rfl, ⟨nd, rfl⟩⟩))
    go_ret
    exact ⟨by first | rfl | (simp; done) | (simp [*]; done), by repeat (first | exact Drawn0.refl _ | apply Drawn0.step)⟩
  ·rw [if_neg c5] at H
   exact absurd H (by simp)
 ·rw [if_neg c4] at H
  exact absurd H (by simp)
def impl_components_1_1_in_c.f (k : Nat) (l0 : List Int) (ll0_0 : List Bool) (ll1_0 : List Int) : Option Bool := Mine.anyO (fun x : Int => impl_components_1_1.f k x ll0_0 ll1_0) l0
theorem impl_components_1_1_in_c.mono : ∀ a0 b0 b1 k, LeO (impl_components_1_1_in_c.f k a0 b0 b1) (impl_components_1_1_in_c.f (k + 1) a0 b0 b1) := by
 intro a0 b0 b1 k
 unfold impl_components_1_1_in_c.f
 exact Mine.anyO_mono (fun (x : Int) b_ hb_ => impl_components_1_1.mono x b0 b1 k b_ hb_) a0
set_option maxHeartbeats 2000000 in
theorem impl_components_1_1_in_c.calls (k : Nat) (A0 : Option Addr) (c0 : Nat) (l0 : List Int) (gq0 : Nat) (AA0_0 : Option Addr) (cc0_0 : Nat) (ll0_0 : List Bool) (gq1 : Nat) (AA1_0 : Option Addr) (cc1_0 : Nat) (ll1_0 : List Int) (r : Bool) (w : World) (hr0 : Kd.C (Kd.int .i64) w A0 l0.length l0) (hc0 : l0.length ≤ c0) (hr10_0 : Kd.C Kd.bool w AA0_0 ll0_0.length ll0_0) (hc10_0 : ll0_0.length ≤ cc0_0) (hr11_0 : Kd.C (Kd.int .i64) w AA1_0 ll1_0.length ll1_0) (hc11_0 : ll1_0.length ≤ cc1_0) (hb0 : w.heap[gq0]? = some (.cells #[.slice AA0_0 ll0_0.length cc0_0] 129 (0, 0))) (hb1 : w.heap[gq1]? = some (.cells #[.slice AA1_0 ll1_0.length cc1_0] 23 (0, 0))) (h : impl_components_1_1_in_c.f k l0 ll0_0 ll1_0 = some r) :
  Calls Try.prog 72 #[.slice A0 l0.length c0, .func (.func 113) #[] #[.pointer (some ⟨gq0, 0, none⟩), .pointer (some ⟨gq1, 0, none⟩)]] w fun e w' => e = .returned (.bool r) ∧ Below w.heap.size w w' :=
 slices_ContainsFunc_int_int_72.anyO 113 #[.pointer (some ⟨gq0, 0, none⟩), .pointer (some ⟨gq1, 0, none⟩)] (fun x : Int => impl_components_1_1.f k x ll0_0 ll1_0) A0 c0 l0 w r (fun args w => enters_ Try.func113 (by kernel_rfl) rfl args w) hr0 hc0
  (fun W x hx bW b hb_ => (impl_components_1_1.calls k x gq0 AA0_0 cc0_0 ll0_0 gq1 AA1_0 cc1_0 ll1_0 b W (Kd.C_below hr10_0 bW) hc10_0 (Kd.C_below hr11_0 bW) hc11_0 (Kb hb0 bW) (Kb hb1 bW) hb_).mono (fun e w' hh => ⟨hh.1, hh.2.below⟩)) h
end Go.Proofs.Ytpboalgecejoeaa.QFnExactIsOrder
