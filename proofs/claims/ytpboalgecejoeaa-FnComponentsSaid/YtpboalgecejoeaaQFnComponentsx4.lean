-- Written by a program of this session (wip/mk.py) over the kit's print: Lean checks it.
import Derived.Test.YtpboalgecejoeaaQFnComponentsx0
import Derived.Test.YtpboalgecejoeaaQFnComponentsx3
namespace Go.Proofs.Ytpboalgecejoeaa.QFnComponents
open Go.Proofs.YtpboalgecejoeaaW.PrintWords.Kd renaming R_alloc → Ra, R_drewN → Rn, R_drew → Rd, S_alloc → Sa, S_drewN → Sn, S_drew → Sd
open Go.Proofs.YtpboalgecejoeaaW.PrintWords renaming below_alloc → Ba, pw_below_drewN → Bn, below_drew1 → Bd, below_set → Bs, below_size → Bz, below_step → Bt, gate_dst → Gd, gate_callee → Gc
open List renaming setIfInBounds_toArray → Lt, set_cons_zero → Lz, set_cons_succ → Ls
open Go.Proofs.YtpboalgecejoeaaW.PrintWords.Aside0 renaming mk → Am
open Go.Proofs.YtpboalgecejoeaaW.PrintWords renaming Aside0 → Ad
open Go.RowKit Go.Proofs.YtpboalgecejoeaaW.PrintWords Go.Proofs.YtpboalgecejoeaaW.PrintLast Go.Proofs.YtpboalgecejoeaaW.PrintMore
attribute [local go_sem] max2_int min2_int max_two min_two max_three min_three max_four min_four   -- for this text's walks alone
set_option linter.unusedVariables false
set_option linter.unusedSimpArgs false
def spec_l1Put.l0 : Nat → List Int → Int → Int → Option (List Int)
 | 0, _, _, _ => none
 | k + 1, x0, x1, x5 => if x5 < (x0.length : Int) then (if 0 ≤ x5 then (if (rd x0 x5) < x1 then (spec_l1Put.l0 k x0 x1 (wrap64 (x5 + 1))) else (if (rd x0 x5) = x1 then (some x0) else ((some (([] : List Int) : List Int)).bind fun y161 => (if x5 ≤ (x0.length : Int) then ((some (x0.take (x5 : Int).toNat : List Int)).bind fun y164 => (if y161.length + y164.length < 17592186044416 then ((some (y161 ++ y164 : List Int)).bind fun y168 => (if y168.length < 17592186044416 then ((some (y168 ++ [x1] : List Int)).bind fun y171 => ((some (x0.drop (x5 : Int).toNat : List Int)).bind fun y174 => (if y171.length + y174.length < 17592186044416 then (some (y171 ++ y174)) else (none)))) else (none))) else (none))) else (none))))) else (none)) else ((some (([] : List Int) : List Int)).bind fun y181 => (if 0 ≤ x5 then (if x5 ≤ (x0.length : Int) then ((some (x0.take (x5 : Int).toNat : List Int)).bind fun y184 => (if y181.length + y184.length < 17592186044416 then ((some (y181 ++ y184 : List Int)).bind fun y188 => (if y188.length < 17592186044416 then ((some (y188 ++ [x1] : List Int)).bind fun y191 => ((some (x0.drop (x5 : Int).toNat : List Int)).bind fun y194 => (if y191.length + y194.length < 17592186044416 then (some (y191 ++ y194)) else (none)))) else (none))) else (none))) else (none)) else (none)))
def spec_l1Put.f (k : Nat) (l0 : List Int) (a1 : Int) : Option (List Int) := spec_l1Put.l0 k l0 a1 0
theorem spec_l1Put.mono_l : ∀ k, (∀ y0 y1 y2, LeO (spec_l1Put.l0 k y0 y1 y2) (spec_l1Put.l0 (k + 1) y0 y1 y2))
 | 0 => fun _ _ _ r h => by simp [spec_l1Put.l0] at h
 | k + 1 => by
  have ih0 := spec_l1Put.mono_l k
  ·intro y0 y1 y2
   unfold spec_l1Put.l0
   repeat' first
   | (with_reducible exact ih0 _ _ _)
   | (with_reducible exact LeO.refl _)
   | (with_reducible exact LeO.none _)
   | (with_reducible refine LeO.ite ?_ ?_)
   | (with_reducible refine LeO.bind ?_ (fun _ => ?_))
   | exact ih0 _ _ _
   | exact LeO.none _
   | refine LeO.ite ?_ ?_
   | refine LeO.bind ?_ (fun _ => ?_)
theorem spec_l1Put.mono : ∀ a0 a1 k, LeO (spec_l1Put.f k a0 a1) (spec_l1Put.f (k + 1) a0 a1) := by
 intro a0 a1 k
 have ih0 := spec_l1Put.mono_l k
 unfold spec_l1Put.f
 repeat' first
   | (with_reducible exact ih0 _ _ _)
   | (with_reducible exact LeO.refl _)
   | (with_reducible exact LeO.none _)
   | (with_reducible refine LeO.ite ?_ ?_)
   | (with_reducible refine LeO.bind ?_ (fun _ => ?_))
   | exact ih0 _ _ _
   | exact LeO.none _
   | refine LeO.ite ?_ ?_
   | refine LeO.bind ?_ (fun _ => ?_)
set_option maxHeartbeats 8000000 in
set_option maxRecDepth 100000 in
theorem spec_l1Put.calls (k : Nat) (P0_ : Nat → Prop) (u9000_ : Value) (l0 : List Int) (a1 : Int) (r : List Int) (w0 w : World) (hB : Below w0.heap.size w0 w) (ho0 : Kd.R (Kd.int .i64) 3 w w0.heap.size P0_ u9000_ l0) (h : spec_l1Put.f k l0 a1 = some r) :
  Calls Try.prog 103 #[u9000_, .int .i64 a1] w fun e w' => ∃ v0_ : Value, e = .returned (v0_) ∧ Kd.R (Kd.int .i64) 3 w' w0.heap.size (fun k_ => (P0_ k_ ∨ w.heap.size ≤ k_)) v0_ r ∧ Below w0.heap.size w0 w' ∧ Kept w w' (fun k_ => P0_ k_) := by
 have HO0 := Am (show Kd.R (Kd.int .i64) 3 w w0.heap.size (fun k_ => (P0_ k_ ∨ w.heap.size ≤ k_)) u9000_ l0 from Kd.R_mono ho0 (fun k_ hk => (.inl hk)))
 have HK := Am (Kept.refl w (fun k_ => P0_ k_))
 have HW0 := Am hB.size
 have HB := Am hB
 clear hB
 have H : (spec_l1Put.l0 k l0 a1 0) = some r := h
 clear h
 have H' := Am H
 clear H
 go_enter Try.func103, Try.ntmps103
 go_wp2
 go_loopg [5] k (fun kq v5 w' => ∃ (x5_1 : Int), v5 = .int .i64 x5_1 ∧ Ad (spec_l1Put.l0 kq l0 a1 x5_1 = some r) ∧ Ad (kq ≤ k) ∧ Ad (Kd.R (Kd.int .i64) 3 w' w0.heap.size (fun k_ => (P0_ k_ ∨ w.heap.size ≤ k_)) u9000_ l0) ∧ Ad (Kept w w' (fun k_ => P0_ k_)) ∧ Ad (Below w0.heap.size w0 w'))
 case atStart => exact ⟨(0), (by first | rfl | (simp; done) | (simp [*]; done)), H', ⟨Nat.le_refl _⟩, ⟨by (with_reducible repeat (first | apply Ra | apply Rn | apply Rd)); exact HO0.out⟩, ⟨by repeat (first | (with_reducible first | exact HK.out | apply Kept.alloc | apply Kept.drewN | apply Kept.drew) | exact HK.out)⟩, ⟨by repeat (first | exact HB.out | apply Ba | apply Bn | apply Bd)⟩⟩
 case round =>
  clear H'
  try clear c1
  try clear p2
  obtain ⟨x5_1, rfl, HA, HK1, HO_0, HK, HB⟩ := hrel
  cases gk with
  | zero => exact absurd HA.out (by simp [spec_l1Put.l0])
  | succ k1 =>
   have H := HA.out
   clear HA
   simp only [spec_l1Put.l0] at H
   by_cases c3 : x5_1 < (l0.length : Int)
   ·rw [if_pos c3] at H
    have c3b0 : decide (x5_1 < (l0.length : Int)) = true := decide_eq_true c3
    clear c3
    by_cases c4 : 0 ≤ x5_1
    ·rw [if_pos c4] at H
     have c4b0 : decide (0 ≤ x5_1) = true := decide_eq_true c4
     clear c4
     by_cases c5 : (rd l0 x5_1) < a1
     ·rw [if_pos c5] at H
      have c5b0 : decide ((rd l0 x5_1) < a1) = true := decide_eq_true c5
      clear c5
      have H' := Am H
      clear H
      obtain ⟨Ao6, co6, eo6⟩ := Kd.R_slice HO_0.out
      subst eo6
      have p159 : 0 ≤ (x5_1 : Int) := of_decide_eq_true (by assumption)
      have q159 : x5_1 < (l0.length : Int) := of_decide_eq_true (by assumption)
      obtain ⟨ad159, e159, hx159_0⟩ := Kd.at_int (Kd.R_reads' HO_0.out).2.2 x5_1 p159 q159
      cases e159
      replace p159 := eq_true p159
      replace q159 := eq_true q159
      go_wp2
      go_roundg k1
      case measure => have := HK1.out; omega
      case rel => exact ⟨(wrap64 (x5_1 + 1)), (by first | rfl | (simp; done) | (simp [*]; done)), H', ⟨by have := HK1.out; omega⟩, ⟨by (with_reducible repeat (first | apply Ra | apply Rn | apply Rd)); exact HO_0.out⟩, ⟨by repeat (first | (with_reducible first | exact HK.out | apply Kept.alloc | apply Kept.drewN | apply Kept.drew) | exact HK.out)⟩, ⟨by repeat (first | exact HB.out | apply Ba | apply Bn | apply Bd)⟩⟩
     ·rw [if_neg c5] at H
      have c5b0 : decide ((rd l0 x5_1) < a1) = false := decide_eq_false c5
      clear c5
      by_cases c7 : (rd l0 x5_1) = a1
      ·rw [if_pos c7] at H
       have c7b0 : ((rd l0 x5_1) == a1) = true := beq_iff_eq.mpr c7
       have c7b1 : ((rd l0 x5_1) != a1) = false := bne_eq_false_iff_eq.mpr c7
       clear c7
       obtain rfl := Option.some.inj H
       obtain ⟨Ao8, co8, eo8⟩ := Kd.R_slice HO_0.out
       subst eo8
       have p159 : 0 ≤ (x5_1 : Int) := of_decide_eq_true (by assumption)
       have q159 : x5_1 < (l0.length : Int) := of_decide_eq_true (by assumption)
       obtain ⟨ad159, e159, hx159_0⟩ := Kd.at_int (Kd.R_reads' HO_0.out).2.2 x5_1 p159 q159
       cases e159
       replace p159 := eq_true p159
       replace q159 := eq_true q159
       have p160 : 0 ≤ (x5_1 : Int) := of_decide_eq_true (by assumption)
       have q160 : x5_1 < (l0.length : Int) := of_decide_eq_true (by assumption)
       obtain ⟨ad160, e160, hx160_0⟩ := Kd.at_int (Kd.R_reads' HO_0.out).2.2 x5_1 p160 q160
       obtain rfl : ad159 = ad160 := (by injection e160)
       replace p160 := eq_true p160
       replace q160 := eq_true q160
       go_wp2
       go_ret
       exact ⟨_, by first | rfl | (simp [*, errW_none, errW_some] <;> rfl), by (with_reducible repeat (first | apply Ra | apply Rn | apply Rd)); exact HO_0.out, by repeat (first | exact HB.out | apply Ba | apply Bn | apply Bd), by repeat (first | (with_reducible first | exact HK.out | apply Kept.alloc | apply Kept.drewN | apply Kept.drew) | exact HK.out)⟩
      ·rw [if_neg c7] at H
       have c7b0 : ((rd l0 x5_1) == a1) = false := beq_eq_false_iff_ne.mpr c7
       have c7b1 : ((rd l0 x5_1) != a1) = true := bne_iff_ne.mpr c7
       obtain ⟨y161, hy161⟩ : ∃ y_ : List Int, y_ = (([] : List Int)) := ⟨_, rfl⟩
       replace H : (if x5_1 ≤ (l0.length : Int) then ((some (l0.take (x5_1 : Int).toNat : List Int)).bind fun y164 => (if y161.length + y164.length < 17592186044416 then ((some (y161 ++ y164 : List Int)).bind fun y168 => (if y168.length < 17592186044416 then ((some (y168 ++ [a1] : List Int)).bind fun y171 => ((some (l0.drop (x5_1 : Int).toNat : List Int)).bind fun y174 => (if y171.length + y174.length < 17592186044416 then (some (y171 ++ y174)) else (none)))) else (none))) else (none))) else (none)) = some r := by first | (rw [hy161]; with_reducible exact H) | (have H2_ := (Option.bind_some _ _).symm.trans H; rw [hy161]; with_reducible exact H2_) | (have H2_ := (Option.bind_some _ _).symm.trans H; with_reducible exact H2_) | with_reducible exact H | (rw [hy161]; exact H) | exact H
       have Ny161 := Am hy161
       clear hy161
       have c9b0 := eq_true (of_decide_eq_true (by assumption) : 0 ≤ x5_1)
       by_cases c10 : x5_1 ≤ (l0.length : Int)
       ·rw [if_pos c10] at H
        have c10b0 := eq_true c10
        have c10b1 : decide (x5_1 ≤ (l0.length : Int)) = true := decide_eq_true c10
        clear c10
        obtain ⟨y164, hy164⟩ : ∃ y_ : List Int, y_ = (l0.take (x5_1 : Int).toNat) := ⟨_, rfl⟩
        replace H : (if y161.length + y164.length < 17592186044416 then ((some (y161 ++ y164 : List Int)).bind fun y168 => (if y168.length < 17592186044416 then ((some (y168 ++ [a1] : List Int)).bind fun y171 => ((some (l0.drop (x5_1 : Int).toNat : List Int)).bind fun y174 => (if y171.length + y174.length < 17592186044416 then (some (y171 ++ y174)) else (none)))) else (none))) else (none)) = some r := by first | (rw [hy164]; with_reducible exact H) | (have H2_ := (Option.bind_some _ _).symm.trans H; rw [hy164]; with_reducible exact H2_) | (have H2_ := (Option.bind_some _ _).symm.trans H; with_reducible exact H2_) | with_reducible exact H | (rw [hy164]; exact H) | exact H
        have Ny164 := Am hy164
        clear hy164
        by_cases c11 : y161.length + y164.length < 17592186044416
        ·rw [if_pos c11] at H
         have LMc11 := Am c11
         clear c11
         obtain ⟨y168, hy168⟩ : ∃ y_ : List Int, y_ = (y161 ++ y164) := ⟨_, rfl⟩
         replace H : (if y168.length < 17592186044416 then ((some (y168 ++ [a1] : List Int)).bind fun y171 => ((some (l0.drop (x5_1 : Int).toNat : List Int)).bind fun y174 => (if y171.length + y174.length < 17592186044416 then (some (y171 ++ y174)) else (none)))) else (none)) = some r := by first | (rw [hy168]; with_reducible exact H) | (have H2_ := (Option.bind_some _ _).symm.trans H; rw [hy168]; with_reducible exact H2_) | (have H2_ := (Option.bind_some _ _).symm.trans H; with_reducible exact H2_) | with_reducible exact H | (rw [hy168]; exact H) | exact H
         have Ny168 := Am hy168
         clear hy168
         by_cases c12 : y168.length < 17592186044416
         ·rw [if_pos c12] at H
          have LMc12 := Am c12
          clear c12
          obtain ⟨y171, hy171⟩ : ∃ y_ : List Int, y_ = (y168 ++ [a1]) := ⟨_, rfl⟩
          replace H : ((some (l0.drop (x5_1 : Int).toNat : List Int)).bind fun y174 => (if y171.length + y174.length < 17592186044416 then (some (y171 ++ y174)) else (none))) = some r := by first | (rw [hy171]; with_reducible exact H) | (have H2_ := (Option.bind_some _ _).symm.trans H; rw [hy171]; with_reducible exact H2_) | (have H2_ := (Option.bind_some _ _).symm.trans H; with_reducible exact H2_) | with_reducible exact H | (rw [hy171]; exact H) | exact H
          have Ny171 := Am hy171
          clear hy171
          have c13b0 := eq_true (of_decide_eq_true (by assumption) : 0 ≤ x5_1)
          have c14b0 := eq_true (of_decide_eq_true (by assumption) : x5_1 ≤ (l0.length : Int))
          obtain ⟨y174, hy174⟩ : ∃ y_ : List Int, y_ = (l0.drop (x5_1 : Int).toNat) := ⟨_, rfl⟩
          replace H : (if y171.length + y174.length < 17592186044416 then (some (y171 ++ y174)) else (none)) = some r := by first | (rw [hy174]; with_reducible exact H) | (have H2_ := (Option.bind_some _ _).symm.trans H; rw [hy174]; with_reducible exact H2_) | (have H2_ := (Option.bind_some _ _).symm.trans H; with_reducible exact H2_) | with_reducible exact H | (rw [hy174]; exact H) | exact H
          have Ny174 := Am hy174
          clear hy174
          by_cases c15 : y171.length + y174.length < 17592186044416
          ·rw [if_pos c15] at H
           have LMc15 := Am c15
           clear c15
           obtain ⟨y178, hy178⟩ : ∃ y_ : List Int, y_ = (y171 ++ y174) := ⟨_, rfl⟩
           replace H : (some y178) = some r := by first | (rw [hy178]; with_reducible exact H) | (have H2_ := (Option.bind_some _ _).symm.trans H; rw [hy178]; with_reducible exact H2_) | (have H2_ := (Option.bind_some _ _).symm.trans H; with_reducible exact H2_) | with_reducible exact H | (rw [hy178]; exact H) | exact H
           have Ny178 := Am hy178
           clear hy178
           obtain rfl := Option.some.inj H
           obtain ⟨Ao16, co16, eo16⟩ := Kd.R_slice HO_0.out
           subst eo16
           have p159 : 0 ≤ (x5_1 : Int) := of_decide_eq_true (by assumption)
           have q159 : x5_1 < (l0.length : Int) := of_decide_eq_true (by assumption)
           obtain ⟨ad159, e159, hx159_0⟩ := Kd.at_int (Kd.R_reads' HO_0.out).2.2 x5_1 p159 q159
           cases e159
           replace p159 := eq_true p159
           replace q159 := eq_true q159
           have p160 : 0 ≤ (x5_1 : Int) := of_decide_eq_true (by assumption)
           have q160 : x5_1 < (l0.length : Int) := of_decide_eq_true (by assumption)
           obtain ⟨ad160, e160, hx160_0⟩ := Kd.at_int (Kd.R_reads' HO_0.out).2.2 x5_1 p160 q160
           obtain rfl : ad159 = ad160 := (by injection e160)
           replace p160 := eq_true p160
           replace q160 := eq_true q160
           go_wp2_with (first | ((refine Gd (N := 34) rfl ?_); refine Kd.R_lit (Kd.int .i64) _ 3 ?hg (N := 34) ?hd (xs := ([] : List Int)) (inner := []) (ok := fun _ => True) (okp := fun _ => True) ?hr ?hp (fun _ hk => hk) trivial (Below.refl _ _) (Nat.le_refl _) (by simp) ?_; (case hd | hg => rfl); (case hr => first | (go_simp; done) | (go_simp; rfl)); (case hp => exact (Reps.none _ _)); intro v162 w17 ho18 hb hg_ hnew_; clear hg_ hnew_; (first | rw [← Ny161.out] at ho18 | (simp only [Int.reduceToNat] at ho18; rw [← Ny161.out] at ho18)); have n0_ := Am (Kd.R_elder' (by (with_reducible repeat (first | apply Ra | apply Rn | apply Rd)); exact HO_0.out) (Kd.R_base ho18) hb); have n1_ := Am (Kd.R_lower (Kd.R_new' (Kd.R_newM (M := fun k_ => (P0_ k_ ∨ w.heap.size ≤ k_)) ho18 (by first | exact HK.out.1 | exact (show Kept w _ (fun k_ => P0_ k_) from by repeat (first | (with_reducible first | exact HK.out | apply Kept.alloc | apply Kept.drewN | apply Kept.drew) | exact HK.out)).1) (fun k_ h_ => .inr h_)) (Kd.R_lt (by (with_reducible repeat (first | apply Ra | apply Rn | apply Rd)); exact HO_0.out))) (Bz (by repeat (first | exact HB.out | apply Ba | apply Bn | apply Bd)))); have n2_ := Am (Kept.below (S := (fun k_ => P0_ k_)) (by repeat (first | (with_reducible first | exact HK.out | apply Kept.alloc | apply Kept.drewN | apply Kept.drew) | exact HK.out)) hb); have n3_ := Am (Bt (by repeat (first | exact HB.out | apply Ba | apply Bn | apply Bd)) hb); clear HO_0; clear HK; clear HB; have HO_0 := n0_; have HO163 := n1_; have HK := n2_; have HB := n3_; clear n0_ n1_ n2_ n3_; clear hb ho18; have q19 : (x5_1 : Int) ≤ ((l0.length : Int) : Int) := of_decide_eq_true (by assumption); obtain ⟨i019, hi019, _, hsz19, _⟩ := info_parts info3; have hroom19 : l0.length ≤ co16 := (Kd.R_reads' HO_0.out).2.1; have hC19 : Kd.C (Kd.int .i64) _ (some ad159) l0.length l0 := (Kd.R_reads' HO_0.out).2.2; have hcut19 := cut_to (P := Try.prog) 23 3 .i64 Try.underlying23 hi019 (some ad159) l0.length co16 x5_1 (of_decide_eq_true (by assumption)) q19 hroom19; have hr19 := Kd.C_take (m := (x5_1 : Int).toNat) hC19 (by omega); have hy19 : y164.length = (x5_1 : Int).toNat := (by rw [Ny164.out, List.length_take]; omega); rw [← Ny164.out] at hr19; rw [← hy19] at hcut19; have HR167 := Am hr19; have HC167 := Am (show y164.length ≤ co16 from by omega); clear hr19 hC19 hroom19 hi019 hsz19; have KY19 := Am hy19; clear hy19; have KL19 := Am (show (x5_1 : Int).toNat ≤ l0.length from by omega); replace q19 := eq_true q19) | ((with_reducible refine gate_builtin (b := .append) (xs := #[.tmp 34, .tmp 37]) rfl ?_); at_builtin; refine Kd.R_append_rows (Kd.int .i64) (w0 := w0) w0.heap.size rfl (.tmp 34) (.tmp 37) 23 3 (.int .i64 0) 8 rfl Try.underlying23 info3 rfl (by decide) (by omega) v162 y161 y164 _ _ _ (fun k_ => (P0_ k_ ∨ w.heap.size ≤ k_) ∧ some k_ ≠ (.slice (some ad159) l0.length co16 : Value).ownBlock) (fun _ => False) rfl rfl ?aO ?aR (fun _ _ h => h) (fun _ h => h.elim) ?aF ?aB ?aS ?aL ?_; (case aR => repeat (first | exact (by repeat (first | (with_reducible exact HR167.out) | (with_reducible refine Kd.C_alloc ?_ _) | (with_reducible refine Kd.C_drewN ?_ _) | (with_reducible refine Kd.C_drew ?_) | exact HR167.out)) | (with_reducible refine Kd.C_alloc ?_ _) | (with_reducible refine Kd.C_drewN ?_ _) | (with_reducible refine Kd.C_drew ?_))); (case aB => exact (by repeat (first | exact HB.out | apply Ba | apply Bn | apply Bd))); (case aF => exact (fun k_ hk => ⟨(.inr (Nat.le_trans (by first | exact HK.out.1 | exact (show Kept w _ (fun k_ => P0_ k_) from by repeat (first | (with_reducible first | exact HK.out | apply Kept.alloc | apply Kept.drewN | apply Kept.drew) | exact HK.out)).1) hk)), Kd.fresh' (Kd.R_lt (by (with_reducible repeat (first | apply Ra | apply Rn | apply Rd)); exact HO_0.out)) k_ hk⟩)); (case aO => exact (by (with_reducible repeat (first | apply Ra | apply Rn | apply Rd)); exact Kd.R_mono HO163.out (fun _ hk => ⟨hk.1.1, hk.2⟩))); (case aS => exact (Bz (by repeat (first | exact HB.out | apply Ba | apply Bn | apply Bd)))); (case aL => have := LMc11.out; omega); intro v169 w20 ho hb hg hat; rw [← Ny168.out] at ho; have n0_ := Am (Kd.R_after (ok := (fun k_ => (P0_ k_ ∨ w.heap.size ≤ k_))) (by (with_reducible repeat (first | apply Ra | apply Rn | apply Rd)); exact HO_0.out) hg hat); have n1_ := Am (hb); have n2_ := Am (Kept.of_grown (S := (fun k_ => P0_ k_)) hg (by repeat (first | (with_reducible first | exact HK.out | apply Kept.alloc | apply Kept.drewN | apply Kept.drew) | exact HK.out)) (fun k_ e_ => (HO163.out.1 k_ e_).1.1)); have n3_ := Am ((show Kd.C (Kd.int .i64) w20 (some ad159) y164.length y164 from by rw [Ny164.out]; exact Kd.C_take (m := (x5_1 : Int).toNat) ((Kd.R_reads' (Kd.R_after (ok := (fun k_ => (P0_ k_ ∨ w.heap.size ≤ k_))) (by (with_reducible repeat (first | apply Ra | apply Rn | apply Rd)); exact HO_0.out) hg hat)).2.2) KL19.out)); have n4_ := Am (ho); clear HO_0; clear HB; clear HK; clear HR167; clear HO163; have HO_0 := n0_; have HB := n1_; have HK := n2_; have HR167 := n3_; have HO170 := n4_; clear n0_ n1_ n2_ n3_ n4_; clear ho hb hg hat) | ((with_reducible refine gate_builtin (b := .append) (xs := #[.tmp 39, .tmp 41]) rfl ?_); at_builtin; refine Kd.R_append (Kd.int .i64) (w0 := w0) w0.heap.size rfl (.tmp 39) (.tmp 41) 23 3 (.int .i64 0) 8 rfl Try.underlying23 info3 rfl (by decide) (by omega) v169 y168 a1 [.int .i64 a1] (fun k_ => (P0_ k_ ∨ w.heap.size ≤ k_) ∧ some k_ ≠ (.slice (some ad159) l0.length co16 : Value).ownBlock) (fun _ => False) rfl rfl ?aP (fun _ hk => hk.elim) ?aF ?aO ?aB ?aS ?aL ?_; (case aP => exact rfl); (case aB => exact (by repeat (first | exact HB.out | apply Ba | apply Bn | apply Bd))); (case aF => exact (fun k_ hk => ⟨(.inr (Nat.le_trans (by first | exact HK.out.1 | exact (show Kept w _ (fun k_ => P0_ k_) from by repeat (first | (with_reducible first | exact HK.out | apply Kept.alloc | apply Kept.drewN | apply Kept.drew) | exact HK.out)).1) hk)), Kd.fresh' (Kd.R_lt (by (with_reducible repeat (first | apply Ra | apply Rn | apply Rd)); exact HO_0.out)) k_ hk⟩)); (case aO => exact (by (with_reducible repeat (first | apply Ra | apply Rn | apply Rd)); exact HO170.out)); (case aS => exact (Bz (by repeat (first | exact HB.out | apply Ba | apply Bn | apply Bd)))); (case aL => have := LMc12.out; omega); intro v172 w21 ho hb hg hat; rw [← Ny171.out] at ho; have n0_ := Am (Kd.R_after (ok := (fun k_ => (P0_ k_ ∨ w.heap.size ≤ k_))) (by (with_reducible repeat (first | apply Ra | apply Rn | apply Rd)); exact HO_0.out) hg hat); have n1_ := Am (hb); have n2_ := Am (Kept.of_grown (S := (fun k_ => P0_ k_)) hg (by repeat (first | (with_reducible first | exact HK.out | apply Kept.alloc | apply Kept.drewN | apply Kept.drew) | exact HK.out)) (fun k_ e_ => (HO170.out.1 k_ e_).1)); have n3_ := Am ((show Kd.C (Kd.int .i64) w21 (some ad159) y164.length y164 from by rw [Ny164.out]; exact Kd.C_take (m := (x5_1 : Int).toNat) ((Kd.R_reads' (Kd.R_after (ok := (fun k_ => (P0_ k_ ∨ w.heap.size ≤ k_))) (by (with_reducible repeat (first | apply Ra | apply Rn | apply Rd)); exact HO_0.out) hg hat)).2.2) KL19.out)); have n4_ := Am (ho); clear HO_0; clear HB; clear HK; clear HR167; clear HO170; have HO_0 := n0_; have HB := n1_; have HK := n2_; have HR167 := n3_; have HO173 := n4_; clear n0_ n1_ n2_ n3_ n4_; clear ho hb hg hat; have q22 : (x5_1 : Int) ≤ ((l0.length : Int) : Int) := of_decide_eq_true (by assumption); obtain ⟨i022, hi022, _, hsz22, _⟩ := info_parts info3; have hroom22 : l0.length ≤ co16 := (Kd.R_reads' HO_0.out).2.1; have hC22 : Kd.C (Kd.int .i64) _ (some ad159) l0.length l0 := (Kd.R_reads' HO_0.out).2.2; have q022 : (0 : Int) ≤ (x5_1 : Int) := of_decide_eq_true (by assumption); have hcut22 := cut_from (P := Try.prog) 23 3 .i64 Try.underlying23 hi022 1 hsz22 (some ad159) l0.length co16 x5_1 q022 q22; have hr22 := Kd.C_drop (m := (x5_1 : Int).toNat) (c := co16) hC22 (by omega) hroom22; obtain ⟨A22, hA22⟩ : ∃ A1, A1 = (if co16 = (x5_1 : Int).toNat then (some ad159) else ((some ad159) : Option Addr).map (·.add ((x5_1 : Int).toNat * 1))) := ⟨_, rfl⟩; obtain ⟨c22, hc22⟩ : ∃ c1, c1 = co16 - (x5_1 : Int).toNat := ⟨_, rfl⟩; have hy22 : y174.length = l0.length - (x5_1 : Int).toNat := (by rw [Ny174.out, List.length_drop] <;> omega); rw [show (l0).drop (x5_1 : Int).toNat = y174 from Ny174.out.symm] at hr22; replace hr22 : Kd.C (Kd.int .i64) _ A22 y174.length y174 := (by rw [hA22]; exact hr22); rw [← hy22, ← hA22, ← hc22] at hcut22; have HR177 := Am hr22; have HC177 := Am (show y174.length ≤ c22 from by rw [hy22, hc22]; exact Nat.sub_le_sub_right hroom22 _); clear hr22 hC22 hroom22 hi022 hsz22 hc22; have KY22 := Am hy22; have KA22 := Am hA22; clear hy22 hA22; have KL22 := Am (show (x5_1 : Int).toNat ≤ l0.length from by omega); replace q22 := eq_true q22) | ((with_reducible refine gate_builtin (b := .append) (xs := #[.tmp 43, .tmp 46]) rfl ?_); at_builtin; refine Kd.R_append_rows (Kd.int .i64) (w0 := w0) w0.heap.size rfl (.tmp 43) (.tmp 46) 23 3 (.int .i64 0) 8 rfl Try.underlying23 info3 rfl (by decide) (by omega) v172 y171 y174 _ _ _ (fun k_ => (P0_ k_ ∨ w.heap.size ≤ k_) ∧ some k_ ≠ (.slice (some ad159) l0.length co16 : Value).ownBlock) (fun _ => False) rfl rfl ?aO ?aR (fun _ _ h => h) (fun _ h => h.elim) ?aF ?aB ?aS ?aL ?_; (case aR => repeat (first | exact (by repeat (first | (with_reducible exact HR177.out) | (with_reducible refine Kd.C_alloc ?_ _) | (with_reducible refine Kd.C_drewN ?_ _) | (with_reducible refine Kd.C_drew ?_) | exact HR177.out)) | (with_reducible refine Kd.C_alloc ?_ _) | (with_reducible refine Kd.C_drewN ?_ _) | (with_reducible refine Kd.C_drew ?_))); (case aB => exact (by repeat (first | exact HB.out | apply Ba | apply Bn | apply Bd))); (case aF => exact (fun k_ hk => ⟨(.inr (Nat.le_trans (by first | exact HK.out.1 | exact (show Kept w _ (fun k_ => P0_ k_) from by repeat (first | (with_reducible first | exact HK.out | apply Kept.alloc | apply Kept.drewN | apply Kept.drew) | exact HK.out)).1) hk)), Kd.fresh' (Kd.R_lt (by (with_reducible repeat (first | apply Ra | apply Rn | apply Rd)); exact HO_0.out)) k_ hk⟩)); (case aO => exact (by (with_reducible repeat (first | apply Ra | apply Rn | apply Rd)); exact HO173.out)); (case aS => exact (Bz (by repeat (first | exact HB.out | apply Ba | apply Bn | apply Bd)))); (case aL => have := LMc15.out; omega); intro v179 w23 ho hb hg hat; rw [← Ny178.out] at ho; have n0_ := Am (Kd.R_after (ok := (fun k_ => (P0_ k_ ∨ w.heap.size ≤ k_))) (by (with_reducible repeat (first | apply Ra | apply Rn | apply Rd)); exact HO_0.out) hg hat); have n1_ := Am (hb); have n2_ := Am (Kept.of_grown (S := (fun k_ => P0_ k_)) hg (by repeat (first | (with_reducible first | exact HK.out | apply Kept.alloc | apply Kept.drewN | apply Kept.drew) | exact HK.out)) (fun k_ e_ => (HO173.out.1 k_ e_).1)); have n3_ := Am ((show Kd.C (Kd.int .i64) w23 (some ad159) y164.length y164 from by rw [Ny164.out]; exact Kd.C_take (m := (x5_1 : Int).toNat) ((Kd.R_reads' (Kd.R_after (ok := (fun k_ => (P0_ k_ ∨ w.heap.size ≤ k_))) (by (with_reducible repeat (first | apply Ra | apply Rn | apply Rd)); exact HO_0.out) hg hat)).2.2) KL19.out)); have n4_ := Am ((show Kd.C (Kd.int .i64) w23 A22 y174.length y174 from by rw [Ny174.out, KA22.out]; exact Kd.C_drop (m := (x5_1 : Int).toNat) (c := co16) ((Kd.R_reads' (Kd.R_after (ok := (fun k_ => (P0_ k_ ∨ w.heap.size ≤ k_))) (by (with_reducible repeat (first | apply Ra | apply Rn | apply Rd)); exact HO_0.out) hg hat)).2.2) KL22.out ((Kd.R_reads' (Kd.R_after (ok := (fun k_ => (P0_ k_ ∨ w.heap.size ≤ k_))) (by (with_reducible repeat (first | apply Ra | apply Rn | apply Rd)); exact HO_0.out) hg hat)).2.1))); have n5_ := Am (ho); clear HO_0; clear HB; clear HK; clear HR167; clear HR177; clear HO173; have HO_0 := n0_; have HB := n1_; have HK := n2_; have HR167 := n3_; have HR177 := n4_; have HO180 := n5_; clear n0_ n1_ n2_ n3_ n4_ n5_; clear ho hb hg hat))
           go_ret
           exact ⟨_, by first | rfl | (simp [*, errW_none, errW_some] <;> rfl), by (with_reducible repeat (first | apply Ra | apply Rn | apply Rd)); exact Kd.R_mono HO180.out (fun _ hk => hk.1), by repeat (first | exact HB.out | apply Ba | apply Bn | apply Bd), by repeat (first | (with_reducible first | exact HK.out | apply Kept.alloc | apply Kept.drewN | apply Kept.drew) | exact HK.out)⟩
          ·rw [if_neg c15] at H
           exact absurd H (by simp)
         ·rw [if_neg c12] at H
          exact absurd H (by simp)
        ·rw [if_neg c11] at H
         exact absurd H (by simp)
       ·rw [if_neg c10] at H
        exact absurd H (by simp)
    ·rw [if_neg c4] at H
     exact absurd H (by simp)
   ·rw [if_neg c3] at H
    have c3b0 : decide (x5_1 < (l0.length : Int)) = false := decide_eq_false c3
    clear c3
    obtain ⟨y181, hy181⟩ : ∃ y_ : List Int, y_ = (([] : List Int)) := ⟨_, rfl⟩
    replace H : (if 0 ≤ x5_1 then (if x5_1 ≤ (l0.length : Int) then ((some (l0.take (x5_1 : Int).toNat : List Int)).bind fun y184 => (if y181.length + y184.length < 17592186044416 then ((some (y181 ++ y184 : List Int)).bind fun y188 => (if y188.length < 17592186044416 then ((some (y188 ++ [a1] : List Int)).bind fun y191 => ((some (l0.drop (x5_1 : Int).toNat : List Int)).bind fun y194 => (if y191.length + y194.length < 17592186044416 then (some (y191 ++ y194)) else (none)))) else (none))) else (none))) else (none)) else (none)) = some r := by first | (rw [hy181]; with_reducible exact H) | (have H2_ := (Option.bind_some _ _).symm.trans H; rw [hy181]; with_reducible exact H2_) | (have H2_ := (Option.bind_some _ _).symm.trans H; with_reducible exact H2_) | with_reducible exact H | (rw [hy181]; exact H) | exact H
    have Ny181 := Am hy181
    clear hy181
    by_cases c24 : 0 ≤ x5_1
    ·rw [if_pos c24] at H
     have c24b0 := eq_true c24
     have c24b1 : decide (0 ≤ x5_1) = true := decide_eq_true c24
     clear c24
     by_cases c25 : x5_1 ≤ (l0.length : Int)
     ·rw [if_pos c25] at H
      have c25b0 := eq_true c25
      have c25b1 : decide (x5_1 ≤ (l0.length : Int)) = true := decide_eq_true c25
      clear c25
      obtain ⟨y184, hy184⟩ : ∃ y_ : List Int, y_ = (l0.take (x5_1 : Int).toNat) := ⟨_, rfl⟩
      replace H : (if y181.length + y184.length < 17592186044416 then ((some (y181 ++ y184 : List Int)).bind fun y188 => (if y188.length < 17592186044416 then ((some (y188 ++ [a1] : List Int)).bind fun y191 => ((some (l0.drop (x5_1 : Int).toNat : List Int)).bind fun y194 => (if y191.length + y194.length < 17592186044416 then (some (y191 ++ y194)) else (none)))) else (none))) else (none)) = some r := by first | (rw [hy184]; with_reducible exact H) | (have H2_ := (Option.bind_some _ _).symm.trans H; rw [hy184]; with_reducible exact H2_) | (have H2_ := (Option.bind_some _ _).symm.trans H; with_reducible exact H2_) | with_reducible exact H | (rw [hy184]; exact H) | exact H
      have Ny184 := Am hy184
      clear hy184
      by_cases c26 : y181.length + y184.length < 17592186044416
      ·rw [if_pos c26] at H
       have LMc26 := Am c26
       clear c26
       obtain ⟨y188, hy188⟩ : ∃ y_ : List Int, y_ = (y181 ++ y184) := ⟨_, rfl⟩
       replace H : (if y188.length < 17592186044416 then ((some (y188 ++ [a1] : List Int)).bind fun y191 => ((some (l0.drop (x5_1 : Int).toNat : List Int)).bind fun y194 => (if y191.length + y194.length < 17592186044416 then (some (y191 ++ y194)) else (none)))) else (none)) = some r := by first | (rw [hy188]; with_reducible exact H) | (have H2_ := (Option.bind_some _ _).symm.trans H; rw [hy188]; with_reducible exact H2_) | (have H2_ := (Option.bind_some _ _).symm.trans H; with_reducible exact H2_) | with_reducible exact H | (rw [hy188]; exact H) | exact H
       have Ny188 := Am hy188
       clear hy188
       by_cases c27 : y188.length < 17592186044416
       ·rw [if_pos c27] at H
        have LMc27 := Am c27
        clear c27
        obtain ⟨y191, hy191⟩ : ∃ y_ : List Int, y_ = (y188 ++ [a1]) := ⟨_, rfl⟩
        replace H : ((some (l0.drop (x5_1 : Int).toNat : List Int)).bind fun y194 => (if y191.length + y194.length < 17592186044416 then (some (y191 ++ y194)) else (none))) = some r := by first | (rw [hy191]; with_reducible exact H) | (have H2_ := (Option.bind_some _ _).symm.trans H; rw [hy191]; with_reducible exact H2_) | (have H2_ := (Option.bind_some _ _).symm.trans H; with_reducible exact H2_) | with_reducible exact H | (rw [hy191]; exact H) | exact H
        have Ny191 := Am hy191
        clear hy191
        have c28b0 := eq_true (of_decide_eq_true (by assumption) : 0 ≤ x5_1)
        have c29b0 := eq_true (of_decide_eq_true (by assumption) : x5_1 ≤ (l0.length : Int))
        obtain ⟨y194, hy194⟩ : ∃ y_ : List Int, y_ = (l0.drop (x5_1 : Int).toNat) := ⟨_, rfl⟩
        replace H : (if y191.length + y194.length < 17592186044416 then (some (y191 ++ y194)) else (none)) = some r := by first | (rw [hy194]; with_reducible exact H) | (have H2_ := (Option.bind_some _ _).symm.trans H; rw [hy194]; with_reducible exact H2_) | (have H2_ := (Option.bind_some _ _).symm.trans H; with_reducible exact H2_) | with_reducible exact H | (rw [hy194]; exact H) | exact H
        have Ny194 := Am hy194
        clear hy194
        by_cases c30 : y191.length + y194.length < 17592186044416
        ·rw [if_pos c30] at H
         have LMc30 := Am c30
         clear c30
         obtain ⟨y198, hy198⟩ : ∃ y_ : List Int, y_ = (y191 ++ y194) := ⟨_, rfl⟩
         replace H : (some y198) = some r := by first | (rw [hy198]; with_reducible exact H) | (have H2_ := (Option.bind_some _ _).symm.trans H; rw [hy198]; with_reducible exact H2_) | (have H2_ := (Option.bind_some _ _).symm.trans H; with_reducible exact H2_) | with_reducible exact H | (rw [hy198]; exact H) | exact H
         have Ny198 := Am hy198
         clear hy198
         obtain rfl := Option.some.inj H
         obtain ⟨Ao31, co31, eo31⟩ := Kd.R_slice HO_0.out
         subst eo31
         go_wp2_with (first | ((refine Gd (N := 34) rfl ?_); refine Kd.R_lit (Kd.int .i64) _ 3 ?hg (N := 34) ?hd (xs := ([] : List Int)) (inner := []) (ok := fun _ => True) (okp := fun _ => True) ?hr ?hp (fun _ hk => hk) trivial (Below.refl _ _) (Nat.le_refl _) (by simp) ?_; (case hd | hg => rfl); (case hr => first | (go_simp; done) | (go_simp; rfl)); (case hp => exact (Reps.none _ _)); intro v182 w32 ho33 hb hg_ hnew_; clear hg_ hnew_; (first | rw [← Ny181.out] at ho33 | (simp only [Int.reduceToNat] at ho33; rw [← Ny181.out] at ho33)); have n0_ := Am (Kd.R_elder' (by (with_reducible repeat (first | apply Ra | apply Rn | apply Rd)); exact HO_0.out) (Kd.R_base ho33) hb); have n1_ := Am (Kd.R_lower (Kd.R_new' (Kd.R_newM (M := fun k_ => (P0_ k_ ∨ w.heap.size ≤ k_)) ho33 (by first | exact HK.out.1 | exact (show Kept w _ (fun k_ => P0_ k_) from by repeat (first | (with_reducible first | exact HK.out | apply Kept.alloc | apply Kept.drewN | apply Kept.drew) | exact HK.out)).1) (fun k_ h_ => .inr h_)) (Kd.R_lt (by (with_reducible repeat (first | apply Ra | apply Rn | apply Rd)); exact HO_0.out))) (Bz (by repeat (first | exact HB.out | apply Ba | apply Bn | apply Bd)))); have n2_ := Am (Kept.below (S := (fun k_ => P0_ k_)) (by repeat (first | (with_reducible first | exact HK.out | apply Kept.alloc | apply Kept.drewN | apply Kept.drew) | exact HK.out)) hb); have n3_ := Am (Bt (by repeat (first | exact HB.out | apply Ba | apply Bn | apply Bd)) hb); clear HO_0; clear HK; clear HB; have HO_0 := n0_; have HO183 := n1_; have HK := n2_; have HB := n3_; clear n0_ n1_ n2_ n3_; clear hb ho33; have q34 : (x5_1 : Int) ≤ ((l0.length : Int) : Int) := of_decide_eq_true (by assumption); obtain ⟨i034, hi034, _, hsz34, _⟩ := info_parts info3; have hroom34 : l0.length ≤ co31 := (Kd.R_reads' HO_0.out).2.1; have hC34 : Kd.C (Kd.int .i64) _ Ao31 l0.length l0 := (Kd.R_reads' HO_0.out).2.2; have hcut34 := cut_to (P := Try.prog) 23 3 .i64 Try.underlying23 hi034 Ao31 l0.length co31 x5_1 (of_decide_eq_true (by assumption)) q34 hroom34; have hr34 := Kd.C_take (m := (x5_1 : Int).toNat) hC34 (by omega); have hy34 : y184.length = (x5_1 : Int).toNat := (by rw [Ny184.out, List.length_take]; omega); rw [← Ny184.out] at hr34; rw [← hy34] at hcut34; have HR187 := Am hr34; have HC187 := Am (show y184.length ≤ co31 from by omega); clear hr34 hC34 hroom34 hi034 hsz34; have KY34 := Am hy34; clear hy34; have KL34 := Am (show (x5_1 : Int).toNat ≤ l0.length from by omega); replace q34 := eq_true q34) | ((with_reducible refine gate_builtin (b := .append) (xs := #[.tmp 34, .tmp 37]) rfl ?_); at_builtin; refine Kd.R_append_rows (Kd.int .i64) (w0 := w0) w0.heap.size rfl (.tmp 34) (.tmp 37) 23 3 (.int .i64 0) 8 rfl Try.underlying23 info3 rfl (by decide) (by omega) v182 y181 y184 _ _ _ (fun k_ => (P0_ k_ ∨ w.heap.size ≤ k_) ∧ some k_ ≠ (.slice Ao31 l0.length co31 : Value).ownBlock) (fun _ => False) rfl rfl ?aO ?aR (fun _ _ h => h) (fun _ h => h.elim) ?aF ?aB ?aS ?aL ?_; (case aR => repeat (first | exact (by repeat (first | (with_reducible exact HR187.out) | (with_reducible refine Kd.C_alloc ?_ _) | (with_reducible refine Kd.C_drewN ?_ _) | (with_reducible refine Kd.C_drew ?_) | exact HR187.out)) | (with_reducible refine Kd.C_alloc ?_ _) | (with_reducible refine Kd.C_drewN ?_ _) | (with_reducible refine Kd.C_drew ?_))); (case aB => exact (by repeat (first | exact HB.out | apply Ba | apply Bn | apply Bd))); (case aF => exact (fun k_ hk => ⟨(.inr (Nat.le_trans (by first | exact HK.out.1 | exact (show Kept w _ (fun k_ => P0_ k_) from by repeat (first | (with_reducible first | exact HK.out | apply Kept.alloc | apply Kept.drewN | apply Kept.drew) | exact HK.out)).1) hk)), Kd.fresh' (Kd.R_lt (by (with_reducible repeat (first | apply Ra | apply Rn | apply Rd)); exact HO_0.out)) k_ hk⟩)); (case aO => exact (by (with_reducible repeat (first | apply Ra | apply Rn | apply Rd)); exact Kd.R_mono HO183.out (fun _ hk => ⟨hk.1.1, hk.2⟩))); (case aS => exact (Bz (by repeat (first | exact HB.out | apply Ba | apply Bn | apply Bd)))); (case aL => have := LMc26.out; omega); intro v189 w35 ho hb hg hat; rw [← Ny188.out] at ho; have n0_ := Am (Kd.R_after (ok := (fun k_ => (P0_ k_ ∨ w.heap.size ≤ k_))) (by (with_reducible repeat (first | apply Ra | apply Rn | apply Rd)); exact HO_0.out) hg hat); have n1_ := Am (hb); have n2_ := Am (Kept.of_grown (S := (fun k_ => P0_ k_)) hg (by repeat (first | (with_reducible first | exact HK.out | apply Kept.alloc | apply Kept.drewN | apply Kept.drew) | exact HK.out)) (fun k_ e_ => (HO183.out.1 k_ e_).1.1)); have n3_ := Am ((show Kd.C (Kd.int .i64) w35 Ao31 y184.length y184 from by rw [Ny184.out]; exact Kd.C_take (m := (x5_1 : Int).toNat) ((Kd.R_reads' (Kd.R_after (ok := (fun k_ => (P0_ k_ ∨ w.heap.size ≤ k_))) (by (with_reducible repeat (first | apply Ra | apply Rn | apply Rd)); exact HO_0.out) hg hat)).2.2) KL34.out)); have n4_ := Am (ho); clear HO_0; clear HB; clear HK; clear HR187; clear HO183; have HO_0 := n0_; have HB := n1_; have HK := n2_; have HR187 := n3_; have HO190 := n4_; clear n0_ n1_ n2_ n3_ n4_; clear ho hb hg hat) | ((with_reducible refine gate_builtin (b := .append) (xs := #[.tmp 39, .tmp 41]) rfl ?_); at_builtin; refine Kd.R_append (Kd.int .i64) (w0 := w0) w0.heap.size rfl (.tmp 39) (.tmp 41) 23 3 (.int .i64 0) 8 rfl Try.underlying23 info3 rfl (by decide) (by omega) v189 y188 a1 [.int .i64 a1] (fun k_ => (P0_ k_ ∨ w.heap.size ≤ k_) ∧ some k_ ≠ (.slice Ao31 l0.length co31 : Value).ownBlock) (fun _ => False) rfl rfl ?aP (fun _ hk => hk.elim) ?aF ?aO ?aB ?aS ?aL ?_; (case aP => exact rfl); (case aB => exact (by repeat (first | exact HB.out | apply Ba | apply Bn | apply Bd))); (case aF => exact (fun k_ hk => ⟨(.inr (Nat.le_trans (by first | exact HK.out.1 | exact (show Kept w _ (fun k_ => P0_ k_) from by repeat (first | (with_reducible first | exact HK.out | apply Kept.alloc | apply Kept.drewN | apply Kept.drew) | exact HK.out)).1) hk)), Kd.fresh' (Kd.R_lt (by (with_reducible repeat (first | apply Ra | apply Rn | apply Rd)); exact HO_0.out)) k_ hk⟩)); (case aO => exact (by (with_reducible repeat (first | apply Ra | apply Rn | apply Rd)); exact HO190.out)); (case aS => exact (Bz (by repeat (first | exact HB.out | apply Ba | apply Bn | apply Bd)))); (case aL => have := LMc27.out; omega); intro v192 w36 ho hb hg hat; rw [← Ny191.out] at ho; have n0_ := Am (Kd.R_after (ok := (fun k_ => (P0_ k_ ∨ w.heap.size ≤ k_))) (by (with_reducible repeat (first | apply Ra | apply Rn | apply Rd)); exact HO_0.out) hg hat); have n1_ := Am (hb); have n2_ := Am (Kept.of_grown (S := (fun k_ => P0_ k_)) hg (by repeat (first | (with_reducible first | exact HK.out | apply Kept.alloc | apply Kept.drewN | apply Kept.drew) | exact HK.out)) (fun k_ e_ => (HO190.out.1 k_ e_).1)); have n3_ := Am ((show Kd.C (Kd.int .i64) w36 Ao31 y184.length y184 from by rw [Ny184.out]; exact Kd.C_take (m := (x5_1 : Int).toNat) ((Kd.R_reads' (Kd.R_after (ok := (fun k_ => (P0_ k_ ∨ w.heap.size ≤ k_))) (by (with_reducible repeat (first | apply Ra | apply Rn | apply Rd)); exact HO_0.out) hg hat)).2.2) KL34.out)); have n4_ := Am (ho); clear HO_0; clear HB; clear HK; clear HR187; clear HO190; have HO_0 := n0_; have HB := n1_; have HK := n2_; have HR187 := n3_; have HO193 := n4_; clear n0_ n1_ n2_ n3_ n4_; clear ho hb hg hat; have q37 : (x5_1 : Int) ≤ ((l0.length : Int) : Int) := of_decide_eq_true (by assumption); obtain ⟨i037, hi037, _, hsz37, _⟩ := info_parts info3; have hroom37 : l0.length ≤ co31 := (Kd.R_reads' HO_0.out).2.1; have hC37 : Kd.C (Kd.int .i64) _ Ao31 l0.length l0 := (Kd.R_reads' HO_0.out).2.2; have q037 : (0 : Int) ≤ (x5_1 : Int) := of_decide_eq_true (by assumption); have hcut37 := cut_from (P := Try.prog) 23 3 .i64 Try.underlying23 hi037 1 hsz37 Ao31 l0.length co31 x5_1 q037 q37; have hr37 := Kd.C_drop (m := (x5_1 : Int).toNat) (c := co31) hC37 (by omega) hroom37; obtain ⟨A37, hA37⟩ : ∃ A1, A1 = (if co31 = (x5_1 : Int).toNat then Ao31 else (Ao31 : Option Addr).map (·.add ((x5_1 : Int).toNat * 1))) := ⟨_, rfl⟩; obtain ⟨c37, hc37⟩ : ∃ c1, c1 = co31 - (x5_1 : Int).toNat := ⟨_, rfl⟩; have hy37 : y194.length = l0.length - (x5_1 : Int).toNat := (by rw [Ny194.out, List.length_drop] <;> omega); rw [show (l0).drop (x5_1 : Int).toNat = y194 from Ny194.out.symm] at hr37; replace hr37 : Kd.C (Kd.int .i64) _ A37 y194.length y194 := (by rw [hA37]; exact hr37); rw [← hy37, ← hA37, ← hc37] at hcut37; have HR197 := Am hr37; have HC197 := Am (show y194.length ≤ c37 from by rw [hy37, hc37]; exact Nat.sub_le_sub_right hroom37 _); clear hr37 hC37 hroom37 hi037 hsz37 hc37; have KY37 := Am hy37; have KA37 := Am hA37; clear hy37 hA37; have KL37 := Am (show (x5_1 : Int).toNat ≤ l0.length from by omega); replace q37 := eq_true q37) | ((with_reducible refine gate_builtin (b := .append) (xs := #[.tmp 43, .tmp 46]) rfl ?_); at_builtin; refine Kd.R_append_rows (Kd.int .i64) (w0 := w0) w0.heap.size rfl (.tmp 43) (.tmp 46) 23 3 (.int .i64 0) 8 rfl Try.underlying23 info3 rfl (by decide) (by omega) v192 y191 y194 _ _ _ (fun k_ => (P0_ k_ ∨ w.heap.size ≤ k_) ∧ some k_ ≠ (.slice Ao31 l0.length co31 : Value).ownBlock) (fun _ => False) rfl rfl ?aO ?aR (fun _ _ h => h) (fun _ h => h.elim) ?aF ?aB ?aS ?aL ?_; (case aR => repeat (first | exact (by repeat (first | (with_reducible exact HR197.out) | (with_reducible refine Kd.C_alloc ?_ _) | (with_reducible refine Kd.C_drewN ?_ _) | (with_reducible refine Kd.C_drew ?_) | exact HR197.out)) | (with_reducible refine Kd.C_alloc ?_ _) | (with_reducible refine Kd.C_drewN ?_ _) | (with_reducible refine Kd.C_drew ?_))); (case aB => exact (by repeat (first | exact HB.out | apply Ba | apply Bn | apply Bd))); (case aF => exact (fun k_ hk => ⟨(.inr (Nat.le_trans (by first | exact HK.out.1 | exact (show Kept w _ (fun k_ => P0_ k_) from by repeat (first | (with_reducible first | exact HK.out | apply Kept.alloc | apply Kept.drewN | apply Kept.drew) | exact HK.out)).1) hk)), Kd.fresh' (Kd.R_lt (by (with_reducible repeat (first | apply Ra | apply Rn | apply Rd)); exact HO_0.out)) k_ hk⟩)); (case aO => exact (by (with_reducible repeat (first | apply Ra | apply Rn | apply Rd)); exact HO193.out)); (case aS => exact (Bz (by repeat (first | exact HB.out | apply Ba | apply Bn | apply Bd)))); (case aL => have := LMc30.out; omega); intro v199 w38 ho hb hg hat; rw [← Ny198.out] at ho; have n0_ := Am (Kd.R_after (ok := (fun k_ => (P0_ k_ ∨ w.heap.size ≤ k_))) (by (with_reducible repeat (first | apply Ra | apply Rn | apply Rd)); exact HO_0.out) hg hat); have n1_ := Am (hb); have n2_ := Am (Kept.of_grown (S := (fun k_ => P0_ k_)) hg (by repeat (first | (with_reducible first | exact HK.out | apply Kept.alloc | apply Kept.drewN | apply Kept.drew) | exact HK.out)) (fun k_ e_ => (HO193.out.1 k_ e_).1)); have n3_ := Am ((show Kd.C (Kd.int .i64) w38 Ao31 y184.length y184 from by rw [Ny184.out]; exact Kd.C_take (m := (x5_1 : Int).toNat) ((Kd.R_reads' (Kd.R_after (ok := (fun k_ => (P0_ k_ ∨ w.heap.size ≤ k_))) (by (with_reducible repeat (first | apply Ra | apply Rn | apply Rd)); exact HO_0.out) hg hat)).2.2) KL34.out)); have n4_ := Am ((show Kd.C (Kd.int .i64) w38 A37 y194.length y194 from by rw [Ny194.out, KA37.out]; exact Kd.C_drop (m := (x5_1 : Int).toNat) (c := co31) ((Kd.R_reads' (Kd.R_after (ok := (fun k_ => (P0_ k_ ∨ w.heap.size ≤ k_))) (by (with_reducible repeat (first | apply Ra | apply Rn | apply Rd)); exact HO_0.out) hg hat)).2.2) KL37.out ((Kd.R_reads' (Kd.R_after (ok := (fun k_ => (P0_ k_ ∨ w.heap.size ≤ k_))) (by (with_reducible repeat (first | apply Ra | apply Rn | apply Rd)); exact HO_0.out) hg hat)).2.1))); have n5_ := Am (ho); clear HO_0; clear HB; clear HK; clear HR187; clear HR197; clear HO193; have HO_0 := n0_; have HB := n1_; have HK := n2_; have HR187 := n3_; have HR197 := n4_; have HO200 := n5_; clear n0_ n1_ n2_ n3_ n4_ n5_; clear ho hb hg hat))
         go_ret
         exact ⟨_, by first | rfl | (simp [*, errW_none, errW_some] <;> rfl), by (with_reducible repeat (first | apply Ra | apply Rn | apply Rd)); exact Kd.R_mono HO200.out (fun _ hk => hk.1), by repeat (first | exact HB.out | apply Ba | apply Bn | apply Bd), by repeat (first | (with_reducible first | exact HK.out | apply Kept.alloc | apply Kept.drewN | apply Kept.drew) | exact HK.out)⟩
        ·rw [if_neg c30] at H
         exact absurd H (by simp)
       ·rw [if_neg c27] at H
        exact absurd H (by simp)
      ·rw [if_neg c26] at H
       exact absurd H (by simp)
     ·rw [if_neg c25] at H
      exact absurd H (by simp)
    ·rw [if_neg c24] at H
     exact absurd H (by simp)
theorem spec_l1Cur_graph.raise {W : World} {b b' e : Nat} {ok : Nat → Prop} {v : Value} {xs : List Int} (h : Kd.R (Kd.int .i64) e W b ok v xs) (hb : ∀ k, v.ownBlock = some k → b' ≤ k) : Kd.R (Kd.int .i64) e W b' ok v xs :=
 Kd.R_of_own (enc := Value.int .i64) (Kd.own_raise (Kd.own_of_R h) hb) h.1
theorem spec_l1Cur_graph.put {W w1 : World} {base i : Nat} {qs : List (Hd × List Int)} {h h' : Hd} {x x' : List Int} (hr : Kd.Rows (Kd.int .i64) 3 W base qs) (hi : qs[i]? = some (h, x)) (hk : Kept W w1 (fun k => some k = (hdV h).ownBlock)) (hb : base ≤ W.heap.size)
  (hy : (Kd.int .i64).R 3 w1 base (fun k => some k = (hdV h).ownBlock ∨ W.heap.size ≤ k) (hdV h') x') : Kd.Rows (Kd.int .i64) 3 w1 base (qs.set i (h', x')) := by
 obtain ⟨hil, hie⟩ := List.getElem?_eq_some_iff.1 hi
 have hfar : ∀ j p, qs[j]? = some p → j ≠ i → NeRow (hdV p.1) (hdV h) := fun j p hj hij => by
  obtain ⟨hjl, hje⟩ := List.getElem?_eq_some_iff.1 hj
  rcases Nat.lt_or_ge i j with hlt | hge
  ·have h1 := (List.pairwise_iff_getElem.1 hr.ne) i j hil hjl hlt
   rw [hje, hie] at h1
   exact ne_symm h1
  ·have h1 := (List.pairwise_iff_getElem.1 hr.ne) j i hjl hil (by omega)
   rw [hje, hie] at h1
   exact h1
 have hnew : ∀ j p, qs[j]? = some p → j ≠ i → NeRow (hdV p.1) (hdV h') := fun j p hj hij k hk1 hk2 => by
  rcases hy.1 k hk2 with he | hge
  ·exact hfar j p hj hij k hk1 he.symm
  ·have := Kd.R_lt (hr.row p (List.mem_iff_getElem?.2 ⟨j, hj⟩)) k hk1
   omega
 refine ⟨fun p hp => ?_, ?_⟩
 ·obtain ⟨j, hj⟩ := List.mem_iff_getElem?.1 hp
  rw [List.getElem?_set] at hj
  split at hj
  ·rename_i hij
   injection hj with hj
   subst hj
   exact Kd.R_mono hy (fun _ _ => trivial)
  ·rename_i hij
   refine Kd.R_mono (Kd.R_kept (Kd.R_tight rfl (hr.row p (List.mem_iff_getElem?.2 ⟨j, hj⟩))) hk (fun k hk1 hk2 => ?_)) (fun _ _ => trivial)
   exact hfar j p hj (fun e => hij e.symm) k hk1.symm hk2.symm
 ·rw [List.pairwise_iff_getElem]
  intro a b ha hb hab
  rw [List.length_set] at ha hb
  rw [List.getElem_set, List.getElem_set]
  split
  ·rename_i hia
   subst hia
   rw [if_neg (by omega)]
   exact ne_symm (hnew b _ (List.getElem?_eq_getElem hb) (by omega))
  ·rename_i hia
   split
   ·rename_i hib
    exact hnew a _ (List.getElem?_eq_getElem ha) (fun e => hia e.symm)
   ·exact (List.pairwise_iff_getElem.1 hr.ne) a b ha hb hab
theorem spec_l1Cur_graph.rowsKeep {W w1 : World} {base g : Nat} {ps : List (Hd × List Int)} (hr : Kd.Rows (Kd.int .i64) 3 W base ps) (hk : KeepBut W w1 g none) (hne : ∀ p ∈ ps, some g ≠ (hdV p.1).ownBlock) : Kd.Rows (Kd.int .i64) 3 w1 base ps :=
 ⟨fun p hp => Kd.R_mono (Kd.R_keep (Kd.R_tight rfl (hr.row p hp)) hk (fun k hk1 e => hne p hp (by rw [← e]; exact hk1))) (fun _ _ => trivial), hr.ne⟩
theorem spec_l1Cur_graph.hdAt {W : World} {base g n c i : Nat} {ok : Nat → Prop} {ps : List (Hd × List Int)} {h : Hd} {x : List Int} (hl : Kd.hd.R 23 W base ok (.slice (some ⟨g, 0, none⟩) n c) (ps.map (·.1))) (hi : ps[i]? = some (h, x)) : W.cell? ⟨g, i, none⟩ = some (hdV h) ∧ W.frozen? ⟨g, i, none⟩ = false := by
 obtain ⟨hil, _⟩ := List.getElem?_eq_some_iff.1 hi
 have hn := (Kd.R_reads' hl).1
 rw [List.length_map] at hn
 obtain ⟨h1, h2⟩ := Kd.R_celln ((none, 0, 0) : Hd) hl (i : Int) (by omega) (by omega)
 rw [Int.toNat_natCast] at h1 h2
 refine ⟨h1.trans ?_, h2⟩
 unfold rdOf
 rw [Int.toNat_natCast, List.getD_eq_getElem?_getD, List.getElem?_map, hi]
 rfl
theorem spec_l1Cur_graph.rows0 (W : World) (base : Nat) : ∀ N : Nat, Kd.Rows (Kd.int .i64) 3 W base (List.replicate N (((none, 0, 0) : Hd), ([] : List Int)))
 | N => ⟨fun p hp => by rw [(List.mem_replicate.1 hp).2]; exact Kd.R_nil _ _ _ _ _, List.pairwise_replicate.2 (.inr (fun k hk => by simp [hdV, Value.ownBlock] at hk))⟩
def spec_l1Cur_graph.n (l0 : List Int) (a s : Int) : Option (Int × Int × Int) := (spec_l1Cur_pick.f l0 a s 8).bind fun p => (spec_l1Cur_one.f l0 p.2.1 p.2.2 30).bind fun b => if b.1 = true then (spec_l1Cur_pick.f l0 b.2.1 b.2.2 2).bind fun t => some (wrap64 (40 + t.1), t.2.1, t.2.2) else some (p.1, b.2.1, b.2.2)
def spec_l1Cur_graph.i : Nat → List Int → Int → List Int → Int → Int → Int → Option (List Int × Int × Int)
 | 0, _, _, _, _, _, _ => none
 | k + 1, l0, n, x, m, a, s => if m > 0 then (spec_l1Cur_pick.f l0 a s n).bind fun t => (spec_l1Put.f k x t.1).bind fun y => if y.length ≤ 1000000 then spec_l1Cur_graph.i k l0 n y (wrap64 (m - 1)) t.2.1 t.2.2 else none else some (x, a, s)
def spec_l1Cur_graph.o (k : Nat) (l0 : List Int) (n : Int) : Nat → Int → Int → Option (List (List Int) × Int × Int)
 | 0, a, s => some ([], a, s)
 | d + 1, a, s => (spec_l1Cur_pick.f l0 a s 3).bind fun t => (spec_l1Cur_graph.i k l0 n [] t.1 t.2.1 t.2.2).bind fun q => (spec_l1Cur_graph.o k l0 n d q.2.1 q.2.2).map fun r => (q.1 :: r.1, r.2)
def spec_l1Cur_graph.z (l0 : List Int) (rows : List (List Int)) (n a s : Int) : Option (List (List Int) × Int × Int) := if n > 0 then (spec_l1Cur_one.f l0 a s 30).bind fun b => if b.1 = true then some (rows.set 0 [n], b.2.1, b.2.2) else some (rows, b.2.1, b.2.2) else some (rows, a, s)
def spec_l1Cur_graph.f (k : Nat) (l0 : List Int) (a s : Int) : Option (List (List Int) × Int × Int) := (spec_l1Cur_graph.n l0 a s).bind fun t => if 0 ≤ t.1 ∧ t.1 ≤ 1000 then (spec_l1Cur_graph.o k l0 t.1 t.1.toNat t.2.1 t.2.2).bind fun r => spec_l1Cur_graph.z l0 r.1 t.1 r.2.1 r.2.2 else none
theorem spec_l1Cur_graph.mono_i : ∀ k l0 n x m a s, LeO (spec_l1Cur_graph.i k l0 n x m a s) (spec_l1Cur_graph.i (k + 1) l0 n x m a s)
 | 0, _, _, _, _, _, _ => LeO.none _
 | k + 1, l0, n, x, m, a, s => by
  unfold spec_l1Cur_graph.i
  exact LeO.ite (LeO.bind (LeO.refl _) (fun t => LeO.bind (spec_l1Put.mono _ _ _) (fun y => LeO.ite (spec_l1Cur_graph.mono_i k _ _ _ _ _ _) (LeO.none _)))) (LeO.refl _)
theorem spec_l1Cur_graph.mono_o (k : Nat) (l0 : List Int) (n : Int) : ∀ d a s, LeO (spec_l1Cur_graph.o k l0 n d a s) (spec_l1Cur_graph.o (k + 1) l0 n d a s)
 | 0, _, _ => LeO.refl _
 | d + 1, a, s => by
  unfold spec_l1Cur_graph.o
  exact LeO.bind (LeO.refl _) (fun t => LeO.bind (spec_l1Cur_graph.mono_i _ _ _ _ _ _ _) (fun q => LeO.map _ (spec_l1Cur_graph.mono_o k l0 n d _ _)))
theorem spec_l1Cur_graph.mono : ∀ l0 a s k, LeO (spec_l1Cur_graph.f k l0 a s) (spec_l1Cur_graph.f (k + 1) l0 a s) := by
 intro l0 a s k
 unfold spec_l1Cur_graph.f
 exact LeO.bind (LeO.refl _) (fun _ => LeO.ite (LeO.bind (spec_l1Cur_graph.mono_o _ _ _ _ _ _) (fun _ => LeO.refl _)) (LeO.none _))
theorem spec_l1Cur_graph.o_len (k : Nat) (l0 : List Int) (n : Int) : ∀ d a s r, spec_l1Cur_graph.o k l0 n d a s = some r → r.1.length = d
 | 0, _, _, r, h => by cases h; rfl
 | d + 1, a, s, r, h => by
  unfold spec_l1Cur_graph.o at h
  obtain ⟨t, _, h⟩ := Option.bind_eq_some_iff.1 h
  obtain ⟨q, _, h⟩ := Option.bind_eq_some_iff.1 h
  obtain ⟨r2, h2, rfl⟩ := Option.map_eq_some_iff.1 h
  rw [List.length_cons, spec_l1Cur_graph.o_len k l0 n d _ _ r2 h2]
set_option maxHeartbeats 8000000 in
set_option maxRecDepth 100000 in
theorem spec_l1Cur_graph.calls (k : Nat) (g : Nat) (l0 : List Int) (a s : Int) (r1 : List (List Int)) (r2 r3 : Int) (w0 w : World) (hI : IsS94 w0 w g l0 a s) (hB : Below w0.heap.size w0 w) (h : spec_l1Cur_graph.f k l0 a s = some (r1, r2, r3)) :
  Calls Try.prog 62 #[.pointer (some ⟨g, 0, none⟩)] w fun e w' => ∃ v0_ : Value, e = .returned (v0_) ∧ Kd.S (Kd.slice 3 (Kd.int .i64)) 23 w' w.heap.size (fun _ => True) v0_ r1 ∧ IsS94 w0 w' g l0 r2 r3 ∧ Below w0.heap.size w0 w' ∧ KeepBut w w' g none := by
 have HI := Am hI
 have HB := Am hB
 have HK := Am (KeepBut.refl w g none)
 have HWS := Am hB.size
 clear hI hB
 unfold spec_l1Cur_graph.f at h
 obtain ⟨⟨n, a0, s0⟩, hn, h⟩ := Option.bind_eq_some_iff.1 h
 try dsimp only at h
 by_cases hn0 : 0 ≤ n ∧ n ≤ 1000
 case neg => rw [if_neg hn0] at h; cases h
 rw [if_pos hn0] at h
 obtain ⟨⟨rows, ra, rs⟩, ho, hz⟩ := Option.bind_eq_some_iff.1 h
 have HO := Am ho
 have HZ := Am hz
 have HRL : Ad (rows.length = n.toNat) := ⟨spec_l1Cur_graph.o_len _ _ _ _ _ _ _ ho⟩
 clear h ho hz
 unfold spec_l1Cur_graph.n at hn
 obtain ⟨⟨p1, a1, s1⟩, hp, hn⟩ := Option.bind_eq_some_iff.1 hn
 obtain ⟨⟨b1, a2, s2⟩, hb, hn⟩ := Option.bind_eq_some_iff.1 hn
 have HP := Am hp
 have HO1 := Am hb
 have HN := Am hn
 clear hp hb hn
 go_enter Try.func62, Try.ntmps62
 go_wp2_with fail
 refine (spec_l1Cur_pick.calls g l0 a s 8 p1 a1 s1 w0 w HI.out HB.out HP.out).mono ?_
 rintro e w1 ⟨rfl, hI, hB, hK⟩
 have HI1 := Am hI
 have HB1 := Am hB
 have HK1 := Am (KeepBut.trans HK.out hK (.inl rfl))
 clear hI hB hK HI HB HK
 go_wp2_with fail
 refine (spec_l1Cur_one.calls g l0 a1 s1 30 b1 a2 s2 w0 w1 HI1.out HB1.out HO1.out).mono ?_
 rintro e w2 ⟨rfl, hI, hB, hK⟩
 have HI2 := Am hI
 have HB2 := Am hB
 have HK2 := Am (KeepBut.trans HK1.out hK (.inl rfl))
 clear hI hB hK HI1 HB1 HK1
 go_upto_if 10 with (fail)
 go_cut [3] (fun v3 wc => v3 = .int .i64 n ∧ Ad (IsS94 w0 wc g l0 a0 s0) ∧ Ad (Below w0.heap.size w0 wc) ∧ Ad (KeepBut w wc g none))
 case first =>
  clear HO HZ HRL
  cases b1 with
  | false =>
   have h1 := HN.out
   try dsimp only at h1
   rw [if_neg (by simp)] at h1
   simp only [Option.some.injEq, Prod.mk.injEq] at h1
   obtain ⟨rfl, rfl, rfl⟩ := h1
   go_wp2
   go_meet
   case rel => exact ⟨rfl, HI2, HB2, HK2⟩
  | true =>
   have h1 := HN.out
   try dsimp only at h1
   rw [if_pos rfl] at h1
   obtain ⟨⟨q1, a3, s3⟩, hq, h1⟩ := Option.bind_eq_some_iff.1 h1
   simp only [Option.some.injEq, Prod.mk.injEq] at h1
   obtain ⟨rfl, rfl, rfl⟩ := h1
   have HQ := Am hq
   clear hq
   go_wp2_with fail
   refine (spec_l1Cur_pick.calls g l0 a2 s2 2 q1 a3 s3 w0 w2 HI2.out HB2.out HQ.out).mono ?_
   rintro e w3 ⟨rfl, hI, hB, hK⟩
   have HI3 := Am hI
   have HB3 := Am hB
   have HK3 := Am (KeepBut.trans HK2.out hK (.inl rfl))
   clear hI hB hK HI2 HB2 HK2
   go_wp2
   go_meet
   case rel => exact ⟨rfl, HI3, HB3, HK3⟩
 case rest =>
  obtain ⟨rfl, HI, HB, HK⟩ := hcut
  clear HI2 HB2 HK2 HN HP HO1
  obtain ⟨N, rfl⟩ : ∃ N : Nat, n = (N : Int) := ⟨n.toNat, by omega⟩
  have hNz := hn0.2
  have HO' : Ad (spec_l1Cur_graph.o k l0 (N : Int) N a0 s0 = some (rows, ra, rs)) := ⟨by have h1 := HO.out; rwa [Int.toNat_natCast] at h1⟩
  have HRL' : Ad (rows.length = N) := ⟨by have h1 := HRL.out; rwa [Int.toNat_natCast] at h1⟩
  clear HO HRL
  have hmk := print_make_of (P := Try.prog) 22 23 (.slice none 0 0) 24 Try.underlying22 info23 rfl (by decide) N (by omega)
  have h0N : (0 : Int) ≤ (N : Int) := by omega
  go_upto_region 5 with (fail)
  obtain ⟨g4, hg4⟩ : ∃ g4, g4 = wc.heap.size := ⟨_, rfl⟩
  refine letC (fun W_ => Below wc.heap.size wc W_ ∧ Kd.hd.R 23 W_ w.heap.size (fun _ => True) (.slice (some ⟨g4, 0, none⟩) N N) (List.replicate N ((none, 0, 0) : Hd))) ⟨Ba (Below.refl _ _) _, by rw [hg4]; exact Kd.R_of_own (enc := hdV) (own_made_of' wc w.heap.size 23 N HK.out.1 (by omega)) (fun _ _ => trivial)⟩ ?_
  rintro W0 ⟨hb, hh⟩
  have HIa := Am (IsS94.below HI.out hb)
  have HBa := Am (below_then HB.out HB.out.size hb)
  have HKa := Am (KeepBut.trans HK.out (KeepBut.of_below hb g none) (.inl rfl))
  have HLa : Ad (Kd.hd.R 23 W0 w.heap.size (fun _ => True) (.slice (some ⟨g4, 0, none⟩) N N) ((List.replicate N (((none, 0, 0) : Hd), ([] : List Int))).map (·.1))) := ⟨by rw [List.map_replicate]; exact hh⟩
  have HWa : Ad (Kd.Rows (Kd.int .i64) 3 W0 w.heap.size (List.replicate N (((none, 0, 0) : Hd), ([] : List Int)))) := ⟨spec_l1Cur_graph.rows0 _ _ _⟩
  rw [← hg4]
  clear hb hh HI HB HK hmk hg4
  go_wp2
  go_loopg [18] N (fun gg v18 wr => ∃ (i : Nat) (ps : List (Hd × List Int)) (a9 s9 : Int), i ≤ N ∧ N - i ≤ gg ∧ v18 = .int .i64 i ∧ ps.length = N ∧ Ad ((ps.map (·.2)).take i = rows.take i) ∧ Ad (ps.drop i = List.replicate (N - i) (((none, 0, 0) : Hd), ([] : List Int))) ∧ Ad (spec_l1Cur_graph.o k l0 (N : Int) (N - i) a9 s9 = some (rows.drop i, ra, rs)) ∧ Ad (Kd.Rows (Kd.int .i64) 3 wr w.heap.size ps) ∧ Ad (Kd.hd.R 23 wr w.heap.size (fun _ => True) (.slice (some ⟨g4, 0, none⟩) N N) (ps.map (·.1))) ∧ Ad (IsS94 w0 wr g l0 a9 s9) ∧ Ad (Below w0.heap.size w0 wr) ∧ Ad (KeepBut w wr g none))
  case atStart => exact ⟨0, _, a0, s0, Nat.zero_le _, by omega, by first | rfl | simp, by simp, ⟨rfl⟩, ⟨rfl⟩, HO', HWa, HLa, HIa, HBa, HKa⟩
  case round =>
   clear HO' HWa HLa HIa HBa HKa
   obtain ⟨i, ps, a9, s9, hi, hgg, rfl, hpl, HT, HD, HO, HW, HL, HI, HB, HK⟩ := hrel
   by_cases hlt : i < N
   ·have hltz : (i : Int) < (N : Int) := by omega
    have h0z : (0 : Int) ≤ (i : Int) := by omega
    obtain ⟨d, hd⟩ : ∃ d, N - i = d + 1 := ⟨N - i - 1, by omega⟩
    have h1 := HO.out
    rw [hd] at h1
    unfold spec_l1Cur_graph.o at h1
    obtain ⟨⟨m0, a1', s1'⟩, hm, h1⟩ := Option.bind_eq_some_iff.1 h1
    obtain ⟨⟨x1, a2', s2'⟩, hq, h1⟩ := Option.bind_eq_some_iff.1 h1
    obtain ⟨⟨rs1, ra', rs'⟩, ho, he⟩ := Option.map_eq_some_iff.1 h1
    simp only [Prod.mk.injEq] at he
    obtain ⟨he1, he2, he3⟩ := he
    try dsimp only at hm hq ho
    have hdr : rows.drop (i + 1) = rs1 := by rw [← List.drop_drop (i := 1) (j := i), ← he1]; rfl
    have hx1 : rows.take (i + 1) = rows.take i ++ [x1] := by
     have h2 : rows[i]? = some x1 := by
      have h3 : (rows.drop i)[0]? = some x1 := by rw [← he1]; rfl
      rw [List.getElem?_drop] at h3
      simpa using h3
     rw [List.take_add_one, h2]
     rfl
    have HO2 : Ad (spec_l1Cur_graph.o k l0 (N : Int) (N - (i + 1)) a2' s2' = some (rows.drop (i + 1), ra, rs)) := ⟨by rw [hdr, show N - (i + 1) = d by omega, ← he2, ← he3]; exact ho⟩
    have hpi : ps[i]? = some (((none, 0, 0) : Hd), ([] : List Int)) := by
     have h3 : (ps.drop i)[0]? = some (((none, 0, 0) : Hd), ([] : List Int)) := by rw [HD.out, hd]; rfl
     rw [List.getElem?_drop] at h3
     simpa using h3
    have hpd : ps.drop (i + 1) = List.replicate (N - (i + 1)) (((none, 0, 0) : Hd), ([] : List Int)) := by
     rw [← List.drop_drop (i := 1) (j := i), HD.out, hd, show N - (i + 1) = d by omega]
     rfl
    have HPD := Am hpd
    have HPI := Am hpi
    have HX1 := Am hx1
    have HM := Am hm
    have HQ := Am hq
    clear h1 hm hq ho he1 he2 he3 hdr hx1 hpd hpi HO HD
    go_wp2_with fail
    refine (spec_l1Cur_pick.calls g l0 a9 s9 3 m0 a1' s1' w0 wr HI.out HB.out HM.out).mono ?_
    rintro e w1 ⟨rfl, hI, hB, hKB⟩
    have HW1 := Am (spec_l1Cur_graph.rowsKeep HW.out hKB (fun p hp => IsS94.own_ne HI.out (HW.out.row p hp) (by decide)))
    have HL1 : Ad (Kd.hd.R 23 w1 w.heap.size (fun _ => True) (.slice (some ⟨g4, 0, none⟩) N N) (ps.map (·.1))) := ⟨Kd.R_mono (Kd.R_keep (IsS94.apart HI.out HL.out (by decide)) hKB (fun _ h => h.2)) (fun _ h => h.1)⟩
    have HI1 := Am hI
    have HB1 := Am hB
    have HK1 := Am (KeepBut.trans HK.out hKB (.inl rfl))
    clear hI hB hKB HI HB HK HW HL HM
    go_wp2
    go_loopg [6] k (fun kq v6 wr => ∃ (m : Int) (h : Hd) (x : List Int) (a s : Int), v6 = .int .i64 m ∧ Ad (kq ≤ k) ∧ Ad (spec_l1Cur_graph.i kq l0 (N : Int) x m a s = some (x1, a2', s2')) ∧ Ad (Kd.Rows (Kd.int .i64) 3 wr w.heap.size (ps.set i (h, x))) ∧ Ad (Kd.hd.R 23 wr w.heap.size (fun _ => True) (.slice (some ⟨g4, 0, none⟩) N N) ((ps.set i (h, x)).map (·.1))) ∧ Ad (IsS94 w0 wr g l0 a s) ∧ Ad (Below w0.heap.size w0 wr) ∧ Ad (KeepBut w wr g none))
    case atStart =>
     have hse : ps.set i (((none, 0, 0) : Hd), ([] : List Int)) = ps := by
      apply List.ext_getElem?
      intro j
      rw [List.getElem?_set]
      split
      ·rename_i hij
       subst hij
       rw [if_pos (by omega), HPI.out]
      ·rfl
     exact ⟨m0, ((none, 0, 0) : Hd), [], a1', s1', by first | rfl | simp, ⟨Nat.le_refl _⟩, HQ, ⟨by rw [hse]; exact HW1.out⟩, ⟨by rw [hse]; exact HL1.out⟩, HI1, HB1, HK1⟩
    case round =>
     clear HW1 HL1 HI1 HB1 HK1 HQ
     obtain ⟨m, h, x, a, s, rfl, HQK, HA, HW, HL, HI, HB, HK⟩ := hrel
     cases gk with
     | zero => exact absurd HA.out (by simp [spec_l1Cur_graph.i])
     | succ k1 =>
      have h1 := HA.out
      simp only [spec_l1Cur_graph.i] at h1
      by_cases hm0 : m > 0
      ·rw [if_pos hm0] at h1
       obtain ⟨⟨t1, ta, ts⟩, hp1, h1⟩ := Option.bind_eq_some_iff.1 h1
       obtain ⟨y, hy, h1⟩ := Option.bind_eq_some_iff.1 h1
       try dsimp only at hp1 hy h1
       by_cases hyl : y.length ≤ 1000000
       case neg => rw [if_neg hyl] at h1; cases h1
       rw [if_pos hyl] at h1
       have HPK := Am hp1
       have HPUT := Am hy
       have HN1 := Am h1
       clear h1 hp1 hy hyl HA
       obtain ⟨B, hl, cB⟩ := h
       have hpi : (ps.set i ((B, hl, cB), x))[i]? = some ((B, hl, cB), x) := by rw [List.getElem?_set_self (by omega)]
       have hRx := HW.out.row _ (List.mem_iff_getElem?.2 ⟨i, hpi⟩)
       obtain rfl : hl = x.length := (Kd.R_reads' hRx).1
       have hx : wr.cell? ⟨g4, i, none⟩ = some (.slice B x.length cB) := (spec_l1Cur_graph.hdAt HL.out hpi).1
       have HPI2 := Am hpi
       clear hpi hRx
       obtain ⟨qs, hqs⟩ : ∃ qs, qs = ps.set i ((B, x.length, cB), x) := ⟨_, rfl⟩
       rw [← hqs] at HW HL HPI2
       go_upto_region 11 with (fail)
       refine start_ (n := 12) (S := fun w' => w'.cell? ⟨g4, i, none⟩ = some (.slice B x.length cB)) (ds := [11]) #[false, false, false, false, false, false, false, false, false, false, false, false] (by kernel_rfl) rfl rfl hx (fun hHeld => ?_)
       have HW1 := Am (HW.out.below (below_drew (Below.refl _ _)))
       have HL1 := Am (Rd HL.out)
       have HI1 : Ad (IsS94 w0 wr.drew g l0 a s) := HI
       have HB1 := Am (Bd HB.out)
       have HK1 : Ad (KeepBut w wr.drew g none) := HK
       clear HW HL HI HB HK hx
       generalize wr.drew = w1 at HW1 HL1 HI1 HB1 HK1 hHeld ⊢
       refine pure_ (i := 0) (N := some 27) (v := ?_) (a' := ?_) #[true, false, false, false, false, false, false, false, false, false, false, false] rfl rfl (by kernel_rfl) (fun _ _ _ h => h) (Or.inl ⟨by rfl, ?_⟩) ?_ ?_
       rotate_left
       ·intro w'
        go_simp
        with_reducible rfl
       rotate_left
       ·simp only [Act.put, Lt, Lz, Ls, i64_w, i32_w]
        rfl
       refine pure_ (i := 1) (N := some 28) (v := ?_) (a' := ?_) #[true, true, false, false, false, false, false, false, false, false, false, false] rfl rfl (by kernel_rfl) (fun _ _ _ h => h) (Or.inl ⟨by rfl, ?_⟩) ?_ ?_
       rotate_left
       ·intro w'
        go_simp
        with_reducible rfl
       rotate_left
       ·simp only [Act.put, Lt, Lz, Ls, i64_w, i32_w]
        rfl
       refine pure_ (i := 2) (N := some 29) (v := ?_) (a' := ?_) #[true, true, true, false, false, false, false, false, false, false, false, false] rfl rfl (by kernel_rfl) (fun _ _ _ h => h) (Or.inl ⟨by rfl, ?_⟩) ?_ ?_
       rotate_left
       ·intro w'
        go_simp
        with_reducible rfl
       rotate_left
       ·simp only [Act.put, Lt, Lz, Ls, i64_w, i32_w]
        rfl
       refine pure_ (i := 3) (N := some 30) (v := ?_) (a' := ?_) #[true, true, true, true, false, false, false, false, false, false, false, false] rfl rfl (by kernel_rfl) (fun _ _ _ h => h) (Or.inl ⟨by rfl, ?_⟩) ?_ ?_
       rotate_left
       ·intro w'
        go_simp
        with_reducible rfl
       rotate_left
       ·simp only [Act.put, Lt, Lz, Ls, i64_w, i32_w]
        rfl
       refine pure_ (i := 6) (N := some 33) (v := ?_) (a' := ?_) #[true, true, true, true, false, false, true, false, false, false, false, false] rfl rfl (by kernel_rfl) (fun _ _ _ h => h) (Or.inl ⟨by rfl, ?_⟩) ?_ ?_
       rotate_left
       ·intro w'
        go_simp
        with_reducible rfl
       rotate_left
       ·simp only [Act.put, Lt, Lz, Ls, i64_w, i32_w]
        rfl
       refine pure_ (i := 7) (N := some 34) (v := ?_) (a' := ?_) #[true, true, true, true, false, false, true, true, false, false, false, false] rfl rfl (by kernel_rfl) (fun _ _ _ h => h) (Or.inl ⟨by rfl, ?_⟩) ?_ ?_
       rotate_left
       ·intro w'
        go_simp
        with_reducible rfl
       rotate_left
       ·simp only [Act.put, Lt, Lz, Ls, i64_w, i32_w]
        rfl
       refine pure_ (i := 4) (N := some 31) (v := ?_) (a' := ?_) #[true, true, true, true, true, false, true, true, false, false, false, false] rfl rfl (by kernel_rfl) (fun _ _ _ h => h) (Or.inl ⟨by rfl, ?_⟩) ?_ ?_
       rotate_left
       ·intro w'
        go_simp
        with_reducible rfl
       rotate_left
       ·simp only [Act.put, Lt, Lz, Ls, i64_w, i32_w]
        rfl
       refine take_ (i := 5) (N := some 32) (v := ?_) (a' := ?_) #[true, true, true, true, true, true, true, true, false, false, false, false] rfl rfl (by kernel_rfl) (fun _ _ _ h => h) (Or.inl ⟨by rfl, ?_⟩) hHeld ?_ ?_
       rotate_left
       ·intro w' s0
        go_simp
        with_reducible rfl
       rotate_left
       ·simp only [Act.put, Lt, Lz, Ls, i64_w, i32_w]
        rfl
       refine one_ (i := 8) (N := some 35) #[true, true, true, true, true, true, true, true, true, false, false, false] rfl rfl (by kernel_rfl) (by decide) (fun K hK => ?_)
       refine goes_ Try.func67 (by kernel_rfl) rfl #[.pointer (some ⟨g, 0, none⟩), .int .i64 (N : Int)] (by rfl) rfl rfl (by (try simp only [List.map_toArray, List.map_cons, List.map_nil]); first | done | rfl) ?_
       with_reducible refine (spec_l1Cur_pick.calls g l0 a s (N : Int) t1 ta ts w0 w1 HI1.out HB1.out HPK.out).mono ?_
       rintro e w2 ⟨rfl, hI, hB, hKB⟩
       refine ⟨_, rfl, ?_⟩
       have HI2 := Am hI
       have HB2 := Am hB
       have HK2 := Am (KeepBut.trans HK1.out hKB (.inl rfl))
       have HW2 := Am (spec_l1Cur_graph.rowsKeep HW1.out hKB (fun p hp => IsS94.own_ne HI1.out (HW1.out.row p hp) (by decide)))
       have HL2 : Ad (Kd.hd.R 23 w2 w.heap.size (fun _ => True) (.slice (some ⟨g4, 0, none⟩) N N) (qs.map (·.1))) := ⟨Kd.R_mono (Kd.R_keep (IsS94.apart HI1.out HL1.out (by decide)) hKB (fun _ h => h.2)) (fun _ h => h.1)⟩
       clear hI hB hKB HI1 HB1 HK1 HW1 HL1
       refine hK.out _ _ (spec_l1Cur_graph.hdAt HL2.out HPI2.out).1 (fun hHeld => ?_)
       clear hK K
       refine norm_ (a' := ?_) ?_ ?_
       rotate_left
       ·show Act.put _ (some 35) _ = _
        simp only [Act.put, Lt, Lz, Ls, i64_w, i32_w]
        rfl
       have HX2 := Am (HW2.out.row _ (List.mem_iff_getElem?.2 ⟨i, HPI2.out⟩))
       refine one_ (i := 9) (N := some 36) #[true, true, true, true, true, true, true, true, true, true, false, false] rfl rfl (by kernel_rfl) (by decide) (fun K hK => ?_)
       refine goes_ Try.func103 (by kernel_rfl) rfl #[.slice B x.length cB, .int .i64 t1] (by rfl) rfl rfl (by (try simp only [List.map_toArray, List.map_cons, List.map_nil]); first | done | rfl) ?_
       with_reducible refine (spec_l1Put.calls k1 (fun k_ => some k_ = (hdV (B, x.length, cB)).ownBlock) (.slice B x.length cB) x t1 y w0 w2 HB2.out (Kd.R_lower (Kd.R_tight rfl HX2.out) HWS.out) HPUT.out).mono ?_
       rintro e w3 ⟨v5, rfl, hR, hB, hKP⟩
       refine ⟨_, rfl, ?_⟩
       obtain ⟨A5, c5, e5⟩ := Kd.R_slice hR
       subst e5
       have hgw : ∀ k_, some k_ = (hdV (B, x.length, cB)).ownBlock → w.heap.size ≤ k_ := fun k_ hk_ => Kd.R_base HX2.out k_ hk_.symm
       have hsz := HK2.out.1
       have hR2 := spec_l1Cur_graph.raise (b' := w.heap.size) hR (fun k_ hk_ => by rcases hR.1 k_ hk_ with h1_ | h1_; exact hgw k_ h1_; omega)
       have HW3 := Am (spec_l1Cur_graph.put (h' := (A5, y.length, c5)) (x' := y) HW2.out HPI2.out hKP hsz hR2)
       have HL3 : Ad (Kd.hd.R 23 w3 w.heap.size (fun _ => True) (.slice (some ⟨g4, 0, none⟩) N N) (qs.map (·.1))) := ⟨Kd.R_mono (Kd.R_kept (Kd.R_apart' HL2.out (Kd.R_typed HX2.out) (by decide)) hKP (fun k_ h1_ h2_ => h1_.2 h2_)) (fun k_ h1_ => h1_.1)⟩
       have HI3 := Am (IsS94.kept HI2.out hKP (IsS94.own_ne HI2.out HX2.out (by decide)))
       have HB3 := Am hB
       have HK3 := Am (Kept.keep HK2.out hKP hgw)
       clear hR hB hKP hgw hsz hR2 HX2 HI2 HB2 HK2 HW2 HL2
       refine hK.out _ _ (spec_l1Cur_graph.hdAt HL3.out HPI2.out).1 (fun hHeld => ?_)
       clear hK K
       refine norm_ (a' := ?_) ?_ ?_
       rotate_left
       ·show Act.put _ (some 36) _ = _
        simp only [Act.put, Lt, Lz, Ls, i64_w, i32_w]
        rfl
       refine pure_ (i := 10) (N := some 37) (v := ?_) (a' := ?_) #[true, true, true, true, true, true, true, true, true, true, true, false] rfl rfl (by kernel_rfl) (fun _ _ _ h => h) (Or.inl ⟨by rfl, ?_⟩) ?_ ?_
       rotate_left
       ·intro w'
        go_simp
        with_reducible rfl
       rotate_left
       ·simp only [Act.put, Lt, Lz, Ls, i64_w, i32_w]
        rfl
       refine last_ (i := 11) (N := none) #[true, true, true, true, true, true, true, true, true, true, true, true] rfl rfl (by kernel_rfl) (by decide) (fun K hK => ?_)
       have hs15 : w3.cell? ⟨g4, i, none⟩ = some (.slice B x.length cB) := (spec_l1Cur_graph.hdAt HL3.out HPI2.out).1
       have hfs15 := (spec_l1Cur_graph.hdAt HL3.out HPI2.out).2
       refine skip_ (w1 := ?_) (by rfl) rfl ?_ ?_
       rotate_left
       ·go_simp
        rfl
       refine hK.out _ _ ?_
       clear hK K
       refine done_ (by kernel_rfl) ?_
       clear hs15 hfs15 hHeld
       have hg4 : w.heap.size ≤ g4 := Kd.R_base HL3.out g4 rfl
       have hws := HWS.out
       obtain ⟨cells4, hb4⟩ := Kd.R_typed HL3.out g4 rfl
       have HL4 : Ad (Kd.hd.R 23 (w3.setCell ⟨g4, i, none⟩ (.slice A5 y.length c5)) w.heap.size (fun _ => True) (.slice (some ⟨g4, 0, none⟩) N N) ((ps.set i ((A5, y.length, c5), y)).map (·.1))) := ⟨by
        have h1 := Kd.R_putn HL3.out (i : Int) (A5, y.length, c5)
        rw [Int.toNat_natCast] at h1
        rw [hqs, List.map_set, List.set_set] at h1
        rw [List.map_set]
        exact h1⟩
       have HW4 : Ad (Kd.Rows (Kd.int .i64) 3 (w3.setCell ⟨g4, i, none⟩ (.slice A5 y.length c5)) w.heap.size (ps.set i ((A5, y.length, c5), y))) := ⟨by
        have h1 := HW3.out.set_ hb4 (by decide) i (.slice A5 y.length c5)
        rw [hqs, List.set_set] at h1
        exact h1⟩
       have HI4 := Am (IsS94.far (p := ⟨g4, i, none⟩) HI3.out (IsS94.ne_blk HI3.out hb4 (by decide)) (.slice A5 y.length c5))
       have HB4 : Ad (Below w0.heap.size w0 (w3.setCell ⟨g4, i, none⟩ (.slice A5 y.length c5))) := ⟨Bs HB3.out (by omega)⟩
       have HK4 := Am (keep_far (p := ⟨g4, i, none⟩) HK3.out hg4 (.slice A5 y.length c5))
       clear HL3 HW3 HI3 HB3 HK3 hb4 hg4 hws HPI2
       go_wp2
       go_roundg k1
       case measure => omega
       case rel => exact ⟨wrap64 (m - 1), (A5, y.length, c5), y, ta, ts, by first | rfl | simp, ⟨by have := HQK.out; omega⟩, HN1, HW4, HL4, HI4, HB4, HK4⟩
      ·rw [if_neg hm0] at h1
       simp only [Option.some.injEq, Prod.mk.injEq] at h1
       obtain ⟨rfl, rfl, rfl⟩ := h1
       clear HA
       have HT2 : Ad (((ps.set i (h, x)).map (·.2)).take (i + 1) = rows.take (i + 1)) := ⟨by
        rw [HX1.out, ← HT.out, List.map_set, List.take_add_one, List.getElem?_set_self (by rw [List.length_map]; omega), List.take_set_of_le (Nat.le_refl _)]
        rfl⟩
       have HD2 : Ad ((ps.set i (h, x)).drop (i + 1) = List.replicate (N - (i + 1)) (((none, 0, 0) : Hd), ([] : List Int))) := ⟨by rw [List.drop_set_of_lt (by omega)]; exact HPD.out⟩
       go_wp2
       go_roundg (N - (i + 1))
       case measure => omega
       case rel => exact ⟨i + 1, ps.set i (h, x), a, s, by omega, by omega, by go_num, by rw [List.length_set]; exact hpl, HT2, HD2, HO2, HW, HL, HI, HB, HK⟩
   ·obtain rfl : i = N := by omega
    have hltz : ¬ (i : Int) < (i : Int) := by omega
    have hrows : ps.map (·.2) = rows := by
     have h1 := HT.out
     rw [List.take_of_length_le (by rw [List.length_map]; omega), List.take_of_length_le (by have := HRL'.out; omega)] at h1
     exact h1
    have hO := HO.out
    rw [Nat.sub_self] at hO
    simp only [spec_l1Cur_graph.o, Option.some.injEq, Prod.mk.injEq] at hO
    obtain ⟨_, rfl, rfl⟩ := hO
    subst hrows
    have HZ1 := HZ.out
    unfold spec_l1Cur_graph.z at HZ1
    clear HO HT HD HZ HRL'
    by_cases hN0 : (i : Int) > 0
    ·rw [if_pos hN0] at HZ1
     obtain ⟨⟨b, a3, s3⟩, hb1, hz⟩ := Option.bind_eq_some_iff.1 HZ1
     try dsimp only at hz
     have HON := Am hb1
     have hN0' : (0 : Int) < (i : Int) := hN0
     clear HZ1 hb1
     go_wp2_with fail
     refine (spec_l1Cur_one.calls g l0 a9 s9 30 b a3 s3 w0 wr HI.out HB.out HON.out).mono ?_
     rintro e w5 ⟨rfl, hI, hB, hKB⟩
     have HW5 := Am (spec_l1Cur_graph.rowsKeep HW.out hKB (fun p hp => IsS94.own_ne HI.out (HW.out.row p hp) (by decide)))
     have HL5 : Ad (Kd.hd.R 23 w5 w.heap.size (fun _ => True) (.slice (some ⟨g4, 0, none⟩) i i) (ps.map (·.1))) := ⟨Kd.R_mono (Kd.R_keep (IsS94.apart HI.out HL.out (by decide)) hKB (fun _ h => h.2)) (fun _ h => h.1)⟩
     have HI5 := Am hI
     have HB5 := Am hB
     have HK5 := Am (KeepBut.trans HK.out hKB (.inl rfl))
     clear hI hB hKB HI HB HK HW HL HON
     cases b with
     | false =>
      rw [if_neg (by simp)] at hz
      simp only [Option.some.injEq, Prod.mk.injEq] at hz
      obtain ⟨rfl, rfl, rfl⟩ := hz
      go_wp2
      go_ret
      exact ⟨_, rfl, Kd.rows_S HL5.out HW5.out rfl (by decide), HI5.out, HB5.out, HK5.out⟩
     | true =>
      rw [if_pos rfl] at hz
      simp only [Option.some.injEq, Prod.mk.injEq] at hz
      obtain ⟨rfl, rfl, rfl⟩ := hz
      obtain ⟨⟨h0, x0⟩, hp0⟩ : ∃ p, ps[0]? = some p := ⟨_, List.getElem?_eq_getElem (show 0 < ps.length by omega)⟩
      obtain ⟨hs0, hf0⟩ := spec_l1Cur_graph.hdAt HL5.out hp0
      have hg4 : w.heap.size ≤ g4 := Kd.R_base HL5.out g4 rfl
      have hlt4 : g4 < w5.heap.size := Kd.R_lt HL5.out g4 rfl
      have hws := HWS.out
      have hsz := HK5.out.1
      have hba : Below w5.heap.size w5 (w5.alloc (.cells #[.int .i64 (i : Int)] 3)) := Ba (Below.refl _ _) _
      have hs1 : (w5.alloc (.cells #[.int .i64 (i : Int)] 3)).cell? ⟨g4, 0, none⟩ = some (hdV h0) := (hba.cell (p := ⟨g4, 0, none⟩) hlt4).trans hs0
      have hL6 := Kd.R_below HL5.out hba
      have hf1 : (w5.alloc (.cells #[.int .i64 (i : Int)] 3)).frozen? ⟨g4, 0, none⟩ = false := (spec_l1Cur_graph.hdAt hL6 hp0).2
      obtain ⟨cells4, hb4⟩ := Kd.R_typed hL6 g4 rfl
      have hrow : Kd.R (Kd.int .i64) 3 (w5.alloc (.cells #[.int .i64 (i : Int)] 3)) w.heap.size (fun k => some k = (hdV h0).ownBlock ∨ w5.heap.size ≤ k) (hdV (some ⟨w5.heap.size, 0, none⟩, 1, 1)) [(i : Int)] := Kd.R_of_own (enc := Value.int .i64) (World.ownsRow_lit (base := w.heap.size) (e := 3) (size := 1) w5 #[.int .i64 (i : Int)] 1 hsz (by decide) rfl) (fun k hk => .inr (by have h1 : w5.heap.size = k := (by simpa [hdV, Value.ownBlock] using hk); omega))
      have hW6 := spec_l1Cur_graph.put (h' := (some ⟨w5.heap.size, 0, none⟩, 1, 1)) (x' := [(i : Int)]) HW5.out hp0 (⟨hba.size, fun k hk _ => hba.block k hk⟩ : Kept w5 (w5.alloc (.cells #[.int .i64 (i : Int)] 3)) (fun k => some k = (hdV h0).ownBlock)) hsz hrow
      have HW7 := Am (hW6.set_ hb4 (by decide) 0 (.slice (some ⟨w5.heap.size, 0, none⟩) 1 1))
      have HL7 : Ad (Kd.hd.R 23 ((w5.alloc (.cells #[.int .i64 (i : Int)] 3)).setCell ⟨g4, 0, none⟩ (.slice (some ⟨w5.heap.size, 0, none⟩) 1 1)) w.heap.size (fun _ => True) (.slice (some ⟨g4, 0, none⟩) i i) ((ps.set 0 ((some ⟨w5.heap.size, 0, none⟩, 1, 1), [(i : Int)])).map (·.1))) := ⟨by
       have h1 := Kd.R_putn hL6 (0 : Int) ((some ⟨w5.heap.size, 0, none⟩, 1, 1) : Hd)
       rw [List.map_set]
       exact h1⟩
      have HI7 := Am (IsS94.far (p := ⟨g4, 0, none⟩) (IsS94.alloc HI5.out (.cells #[.int .i64 (i : Int)] 3)) (IsS94.ne_blk (IsS94.alloc HI5.out (.cells #[.int .i64 (i : Int)] 3)) hb4 (by decide)) (.slice (some ⟨w5.heap.size, 0, none⟩) 1 1))
      have HB7 : Ad (Below w0.heap.size w0 ((w5.alloc (.cells #[.int .i64 (i : Int)] 3)).setCell ⟨g4, 0, none⟩ (.slice (some ⟨w5.heap.size, 0, none⟩) 1 1))) := ⟨Bs (Ba HB5.out _) (by omega)⟩
      have HK7 := Am (keep_far (p := ⟨g4, 0, none⟩) (keep_alloc HK5.out (.cells #[.int .i64 (i : Int)] 3)) hg4 (.slice (some ⟨w5.heap.size, 0, none⟩) 1 1))
      have hcomm : (w5.alloc (.cells #[.int .i64 (i : Int)] 3)).setCell ⟨g4, 0, none⟩ (.slice (some ⟨w5.heap.size, 0, none⟩) 1 1) = (w5.setCell ⟨g4, 0, none⟩ (.slice (some ⟨w5.heap.size, 0, none⟩) 1 1)).alloc (.cells #[.int .i64 (i : Int)] 3) := by
       first | rfl | (go_simp; done) | (go_simp; rfl)
      rw [hcomm] at HW7 HL7 HI7 HB7 HK7
      clear hba hL6 hb4 hrow hW6 HW5 HL5 HI5 HB5 HK5 hws hsz hcomm
      go_wp2
      go_ret
      refine ⟨_, rfl, ?_, HI7.out, HB7.out, HK7.out⟩
      have h1 := Kd.rows_S HL7.out HW7.out rfl (by decide)
      rw [List.map_set] at h1
      exact h1
    ·rw [if_neg hN0] at HZ1
     simp only [Option.some.injEq, Prod.mk.injEq] at HZ1
     obtain ⟨rfl, rfl, rfl⟩ := HZ1
     have hN0' : ¬ (0 : Int) < (i : Int) := hN0
     go_wp2
     go_ret
     exact ⟨_, rfl, Kd.rows_S HL.out HW.out rfl (by decide), HI.out, HB.out, HK.out⟩
def spec_DrawGoodGraph.f (k : Nat) (l0 : List Int) : Option (List (List Int)) := (spec_l1Cur_graph.f k l0 0 0).bind fun t => some t.1
theorem spec_DrawGoodGraph.mono : ∀ l0 k, LeO (spec_DrawGoodGraph.f k l0) (spec_DrawGoodGraph.f (k + 1) l0) := by
 intro l0 k
 unfold spec_DrawGoodGraph.f
 exact LeO.bind (spec_l1Cur_graph.mono l0 0 0 k) (fun _ => LeO.refl _)
set_option maxHeartbeats 8000000 in
set_option maxRecDepth 100000 in
theorem spec_DrawGoodGraph.calls (k : Nat) (A0 : Option Addr) (c0 : Nat) (l0 : List Int) (r : List (List Int)) (w : World) (hr0 : Kd.C (Kd.int .u8) w A0 l0.length l0) (hc0 : l0.length ≤ c0) (h : spec_DrawGoodGraph.f k l0 = some r) :
  Calls Try.prog 74 #[.slice A0 l0.length c0] w fun e w' => ∃ v0_ : Value, e = .returned (v0_) ∧ Kd.S (Kd.slice 3 (Kd.int .i64)) 23 w' w.heap.size (fun _ => True) v0_ r ∧ Below w.heap.size w w' := by
 unfold spec_DrawGoodGraph.f at h
 obtain ⟨⟨r1, a1, s1⟩, hg, h⟩ := Option.bind_eq_some_iff.1 h
 obtain rfl : r1 = r := Option.some.inj h
 have HG := Am hg
 clear h hg
 have HR := Am hr0
 clear hr0 hc0
 go_enter Try.func74, Try.ntmps74
 go_upto_region 2 with (fail)
 refine letC (fun W_ => Below w.heap.size w W_ ∧ W_.heap[w.heap.size]? = some (.cells #[.slice A0 l0.length c0, .int .i64 0, .int .u64 0] 94 (0, 0))) ⟨Ba (Below.refl _ _) _, blk_new w (.cells #[.slice A0 l0.length c0, .int .i64 0, .int .u64 0] 94)⟩ ?_
 rintro W0 ⟨hb, hx⟩
 have HB0 := Am hb
 have HI0 : Ad (IsS94 w W0 w.heap.size l0 0 0) := ⟨⟨A0, c0, hx, Nat.le_refl _, HR.out⟩⟩
 clear hb hx
 generalize w.heap.size = g at HI0
 go_wp2_with fail
 refine (spec_l1Cur_graph.calls k g l0 0 0 r1 a1 s1 w W0 HI0.out HB0.out HG.out).mono ?_
 rintro e W1 ⟨v, rfl, hS, hI, hB, hK⟩
 have HS1 := Am (Kd.S_lower hS HB0.out.size)
 have HI1 := Am hI
 have HB1 := Am hB
 clear hS hI hB hK HI0 HB0
 obtain ⟨A5, c5, e5⟩ := Kd.S_slice HS1.out
 subst e5
 go_wp2
 go_ret
 exact ⟨_, rfl, HS1.out, HB1.out⟩
def spec_DrawComponentsOf.f (k : Nat) (l0 : List Int) : Option ((List (List Int))) := (spec_DrawGoodGraph.f k l0).bind fun t201 => (some t201)
theorem spec_DrawComponentsOf.mono : ∀ a0 k, LeO (spec_DrawComponentsOf.f k a0) (spec_DrawComponentsOf.f (k + 1) a0) := by
 intro a0 k
 unfold spec_DrawComponentsOf.f
 repeat' first
   | (with_reducible exact spec_DrawGoodGraph.mono _ _)
   | (with_reducible exact LeO.refl _)
   | (with_reducible exact LeO.none _)
   | (with_reducible refine LeO.ite ?_ ?_)
   | (with_reducible refine LeO.bind ?_ (fun _ => ?_))
   | exact spec_DrawGoodGraph.mono _ _
   | exact LeO.none _
   | refine LeO.ite ?_ ?_
   | refine LeO.bind ?_ (fun _ => ?_)
set_option maxHeartbeats 8000000 in
set_option maxRecDepth 100000 in
theorem spec_DrawComponentsOf.calls (k : Nat) (A0 : Option Addr) (c0 : Nat) (l0 : List Int) (r : List (List Int)) (w : World) (hr0 : Kd.C (Kd.int .u8) w A0 l0.length l0) (hc0 : l0.length ≤ c0) (h : spec_DrawComponentsOf.f k l0 = some r) :
  Calls Try.prog 24 #[.slice A0 l0.length c0] w fun e w' => ∃ v0_ : Value, e = .returned (v0_) ∧ Kd.S (Kd.slice 3 (Kd.int .i64)) 23 w' w.heap.size (fun _ => True) v0_ r ∧ Below w.heap.size w w' := by
 have HR0 := Am hr0
 have HC0 := Am hc0
 clear hr0 hc0
 have HB := Am (Below.refl w.heap.size w)
 have H : ((spec_DrawGoodGraph.f k l0).bind fun t201 => (some t201)) = some r := h
 clear h
 replace H := Option.bind_eq_some_iff.mp H
 obtain ⟨t201, A20, H⟩ := H
 replace H : (some t201) = some r := H
 have A2 := Am A20
 clear A20
 obtain rfl := Option.some.inj H
 go_enter Try.func24, Try.ntmps24
 go_wp2_with (first | ((refine Gc (f := 74) rfl ?_); refine goesL_ (some 4) rfl rfl Try.func74 (by kernel_rfl) rfl #[.slice A0 l0.length c0] rfl (by first | rfl | (simp only [List.map_toArray, List.map_cons, List.map_nil]; first | done | rfl)) ?_; (with_reducible refine (spec_DrawGoodGraph.calls k _ _ l0 t201 _ ?side1 ?side2 A2.out).mono ?_); (case side1 => repeat (first | exact HR0.out | (with_reducible refine Kd.C_alloc ?_ _) | (with_reducible refine Kd.C_drewN ?_ _) | (with_reducible refine Kd.C_drew ?_))); (case side2 => exact HC0.out); rintro e w3 ⟨v202, rfl, ho0, hb⟩; refine ⟨_, rfl, ?_⟩; have n0_ := Am (Kd.S_lower ho0 (Bz (by repeat (first | exact HB.out | apply Ba | apply Bn | apply Bd)))); have n1_ := Am (Bt (by repeat (first | exact HB.out | apply Ba | apply Bn | apply Bd)) hb); clear HB; have HO203 := n0_; have HB := n1_; clear n0_ n1_; (try clear hb); (try clear hb2); (try clear hk); (try clear hi); (try clear ho0)))
 go_ret
 exact ⟨_, by first | rfl | (simp [*, errW_none, errW_some] <;> rfl), by (with_reducible repeat (first | apply Sa | apply Sn | apply Sd)); exact HO203.out, by repeat (first | exact HB.out | apply Ba | apply Bn | apply Bd)⟩
end Go.Proofs.Ytpboalgecejoeaa.QFnComponents
