-- Written by a program of this session (wip/mk.py) over the kit's print: Lean checks it.
import Derived.Test.YtpboalgecejoeaaQFnOrdersx0
import Derived.Test.YtpboalgecejoeaaQFnOrdersx1
import Derived.Test.YtpboalgecejoeaaQFnOrdersx2
import Derived.Test.YtpboalgecejoeaaQFnOrdersx3
import Derived.Test.YtpboalgecejoeaaQFnOrdersx6
import Derived.Test.YtpboalgecejoeaaQFnOrdersx9
import Derived.Test.YtpboalgecejoeaaQFnOrdersx11
namespace Go.Proofs.Ytpboalgecejoeaa.QFnOrders
open Go.Proofs.YtpboalgecejoeaaW.PrintWords.Kd renaming R_alloc → Ra, R_drewN → Rn, R_drew → Rd, S_alloc → Sa, S_drewN → Sn, S_drew → Sd
open Go.Proofs.YtpboalgecejoeaaW.PrintWords renaming below_alloc → Ba, pw_below_drewN → Bn, below_drew1 → Bd, below_set → Bs, below_size → Bz, below_step → Bt, gate_dst → Gd, gate_callee → Gc, gate_store → Gs
open Go.Proofs.YtpboalgecejoeaaW.PrintWords.Aside0 renaming mk → Am
open Go.Proofs.YtpboalgecejoeaaW.PrintWords renaming Aside0 → Ad
open Go.RowKit Go.Proofs.YtpboalgecejoeaaW.PrintWords Go.Proofs.YtpboalgecejoeaaW.PrintLast Go.Proofs.YtpboalgecejoeaaW.PrintMore
attribute [local go_sem] max2_int min2_int max_two min_two max_three min_three max_four min_four   -- for this text's walks alone
set_option linter.unusedVariables false
set_option linter.unusedSimpArgs false
def spec_l1Cur_keys.l0 : Nat → Int → List Int → Int → List Int → Int → Int → Option (List Int × Int × Int)
 | 0, _, _, _, _, _, _ => none
 | k + 1, x1, x5, x6, x1000, x1001, x1002 => if x6 < x1 then ((spec_l1Cur_pick.f x1000 x1001 x1002 9).bind fun bt303 => (if x5.length < 17592186044416 then (spec_l1Cur_keys.l0 k x1 (x5 ++ [wrap64 ((wrap64 (100 * bt303.1)) + x6)]) (wrap64 (x6 + 1)) x1000 bt303.2.1 bt303.2.2) else (none))) else (if x1 > 1 then ((spec_l1Cur_one.f x1000 x1001 x1002 30).bind fun bt309 => (if bt309.1 = true then (if 0 < (x5.length : Int) then (if 1 < (x5.length : Int) then (some ((x5.set (1 : Int).toNat (rd x5 0)), bt309.2.1, bt309.2.2)) else (none)) else (none)) else (some (x5, bt309.2.1, bt309.2.2)))) else (some (x5, x1001, x1002)))
def spec_l1Cur_keys.f (k : Nat) (s0_0 : List Int) (s0_1 : Int) (s0_2 : Int) (a1 : Int) : Option (List Int × Int × Int) := spec_l1Cur_keys.l0 k a1 ([] : List Int) 0 s0_0 s0_1 s0_2
theorem spec_l1Cur_keys.mono_l : ∀ k, (∀ y0 y1 y2 y3 y4 y5, LeO (spec_l1Cur_keys.l0 k y0 y1 y2 y3 y4 y5) (spec_l1Cur_keys.l0 (k + 1) y0 y1 y2 y3 y4 y5))
 | 0 => fun _ _ _ _ _ _ r h => by simp [spec_l1Cur_keys.l0] at h
 | k + 1 => by
  have ih0 := spec_l1Cur_keys.mono_l k
  ·intro y0 y1 y2 y3 y4 y5
   unfold spec_l1Cur_keys.l0
   repeat' first
   | (with_reducible exact ih0 _ _ _ _ _ _)
   | (with_reducible exact LeO.refl _)
   | (with_reducible exact LeO.none _)
   | (with_reducible refine LeO.ite ?_ ?_)
   | (with_reducible refine LeO.bind ?_ (fun _ => ?_))
   | exact ih0 _ _ _ _ _ _
   | exact LeO.none _
   | refine LeO.ite ?_ ?_
   | refine LeO.bind ?_ (fun _ => ?_)
theorem spec_l1Cur_keys.mono : ∀ a0 a1 a2 a3 k, LeO (spec_l1Cur_keys.f k a0 a1 a2 a3) (spec_l1Cur_keys.f (k + 1) a0 a1 a2 a3) := by
 intro a0 a1 a2 a3 k
 have ih0 := spec_l1Cur_keys.mono_l k
 unfold spec_l1Cur_keys.f
 repeat' first
   | (with_reducible exact ih0 _ _ _ _ _ _)
   | (with_reducible exact LeO.refl _)
   | (with_reducible exact LeO.none _)
   | (with_reducible refine LeO.ite ?_ ?_)
   | (with_reducible refine LeO.bind ?_ (fun _ => ?_))
   | exact ih0 _ _ _ _ _ _
   | exact LeO.none _
   | refine LeO.ite ?_ ?_
   | refine LeO.bind ?_ (fun _ => ?_)
set_option maxHeartbeats 8000000 in
set_option maxRecDepth 100000 in
theorem spec_l1Cur_keys.calls (k : Nat) (g : Nat) (s0_0 : List Int) (s0_1 : Int) (s0_2 : Int) (a1 : Int) (r1 : List Int) (r2 : Int) (r3 : Int) (w0 w : World) (hI : IsS94 w0 w g s0_0 s0_1 s0_2) (hB : Below w0.heap.size w0 w) (h : spec_l1Cur_keys.f k s0_0 s0_1 s0_2 a1 = some (r1, r2, r3)) :
  Calls Try.prog 63 #[.pointer (some ⟨g, 0, none⟩), .int .i64 a1] w fun e w' => ∃ v0_ : Value, e = .returned (v0_) ∧ Kd.R (Kd.int .i64) 3 w' w.heap.size (fun _ => True) v0_ r1 ∧ IsS94 w0 w' g s0_0 r2 r3 ∧ Below w0.heap.size w0 w' ∧ KeepBut w w' g none := by
 have HI0 := Am hI
 have HK := Am (KeepBut.refl w g none)
 have HL := Am hB.size
 clear hI
 have HW0 := Am hB.size
 have HB := Am hB
 clear hB
 have H : (spec_l1Cur_keys.l0 k a1 ([] : List Int) 0 s0_0 s0_1 s0_2) = some (r1, r2, r3) := h
 clear h
 have H' := Am H
 clear H
 go_enter Try.func63, Try.ntmps63
 go_wp2
 go_loopg [5, 6] k (fun kq v5 v6 w' => ∃ (x5_1 : List Int) (x6_1 : Int) (x1001_1 : Int) (x1002_1 : Int), v6 = .int .i64 x6_1 ∧ Ad (spec_l1Cur_keys.l0 kq a1 x5_1 x6_1 s0_0 x1001_1 x1002_1 = some (r1, r2, r3)) ∧ Ad (kq ≤ k) ∧ Ad (Kd.R (Kd.int .i64) 3 w' w.heap.size (fun _ => True) v5 x5_1) ∧ Ad (IsS94 w0 w' g s0_0 x1001_1 x1002_1) ∧ Ad (KeepBut w w' g none) ∧ Ad (Below w0.heap.size w0 w'))
 case atStart => exact ⟨(([] : List Int)), (0), (s0_1), (s0_2), (by first | rfl | (simp; done) | (simp [*]; done)), H', ⟨Nat.le_refl _⟩, ⟨by first | exact Kd.R_nil _ _ _ _ _ | exact Kd.N_nil _ _ _ _ _ | exact Kd.V_nil _ _ _ _ _ | exact Kd.Q_nil _ _ _ _ _ | exact Kd.S_nil _ _ _ _ _⟩, ⟨by repeat (first | (with_reducible first | exact HI0.out | apply IsS94.alloc | apply IsS94.drewN | apply IsS94.drew | apply IsS94.set_1 | apply IsS94.set_2) | exact HI0.out)⟩, ⟨by repeat (first | (with_reducible first | exact HK.out | apply KeepBut.set_ | apply keep_drewN | apply keep_drew | apply keep_alloc) | exact HK.out)⟩, ⟨by repeat (first | (with_reducible first | exact HB.out | apply Ba | apply Bn | apply Bd | refine Bs ?_ (IsS94.ge HI0.out)) | exact HB.out)⟩⟩
 case round =>
  clear H'
  try clear p2
  obtain ⟨x5_1, x6_1, x1001_1, x1002_1, rfl, HA, HK1, HO_5, HI0, HK, HB⟩ := hrel
  cases gk with
  | zero => exact absurd HA.out (by simp [spec_l1Cur_keys.l0])
  | succ k1 =>
   have H := HA.out
   clear HA
   simp only [spec_l1Cur_keys.l0] at H
   by_cases c3 : x6_1 < a1
   ·rw [if_pos c3] at H
    have c3b0 : decide (x6_1 < a1) = true := decide_eq_true c3
    clear c3
    replace H := Option.bind_eq_some_iff.mp H
    obtain ⟨⟨t303, t304, t305⟩, A40, H⟩ := H
    replace H : (if x5_1.length < 17592186044416 then (spec_l1Cur_keys.l0 k1 a1 (x5_1 ++ [wrap64 ((wrap64 (100 * t303)) + x6_1)]) (wrap64 (x6_1 + 1)) s0_0 t304 t305) else (none)) = some (r1, r2, r3) := H
    have A4 := Am A40
    clear A40
    by_cases c5 : x5_1.length < 17592186044416
    ·rw [if_pos c5] at H
     have LMc5 := Am c5
     clear c5
     obtain ⟨y306, hy306⟩ : ∃ y_ : List Int, y_ = (x5_1 ++ [wrap64 ((wrap64 (100 * t303)) + x6_1)]) := ⟨_, rfl⟩
     replace H : (spec_l1Cur_keys.l0 k1 a1 y306 (wrap64 (x6_1 + 1)) s0_0 t304 t305) = some (r1, r2, r3) := by first | (rw [hy306]; with_reducible exact H) | (have H2_ := (Option.bind_some _ _).symm.trans H; rw [hy306]; with_reducible exact H2_) | (have H2_ := (Option.bind_some _ _).symm.trans H; with_reducible exact H2_) | with_reducible exact H | (rw [hy306]; exact H) | exact H
     have Ny306 := Am hy306
     clear hy306
     have H' := Am H
     clear H
     go_wp2_with (first | ((refine Gc (f := 67) rfl ?_); refine goesL_ (some 14) rfl rfl Try.func67 (by kernel_rfl) rfl #[.pointer (some ⟨g, 0, none⟩), .int .i64 9] rfl (by first | rfl | (simp only [List.map_toArray, List.map_cons, List.map_nil]; first | done | rfl)) ?_; (with_reducible refine (spec_l1Cur_pick.calls g s0_0 x1001_1 x1002_1 9 t303 t304 t305 w0 _ ?side1 ?side2 A4.out).mono ?_); (case side1 => repeat (first | (with_reducible first | exact HI0.out | apply IsS94.alloc | apply IsS94.drewN | apply IsS94.drew | apply IsS94.set_1 | apply IsS94.set_2) | exact HI0.out)); (case side2 => repeat (first | (with_reducible first | exact HB.out | apply Ba | apply Bn | apply Bd | refine Bs ?_ (IsS94.ge HI0.out)) | exact HB.out)); rintro e w6 ⟨rfl, hi, hb, hk⟩; refine ⟨_, rfl, ?_⟩; have n0_ := Am (Kd.R_mono (Kd.R_keep (IsS94.apart (show IsS94 w0 _ g s0_0 x1001_1 x1002_1 from by repeat (first | (with_reducible first | exact HI0.out | apply IsS94.alloc | apply IsS94.drewN | apply IsS94.drew | apply IsS94.set_1 | apply IsS94.set_2) | exact HI0.out)) (by (with_reducible repeat (first | apply Ra | apply Rn | apply Rd)); exact HO_5.out) (by decide)) hk (fun _ h => h.2)) (fun _ h => h.1)); have n1_ := Am (KeepBut.trans (by repeat (first | (with_reducible first | exact HK.out | apply KeepBut.set_ | apply keep_drewN | apply keep_drew | apply keep_alloc) | exact HK.out)) hk (.inl rfl)); have n2_ := Am (hb); have n3_ := Am (hi); clear HO_5; clear HK; clear HB; clear HI0; have HO_5 := n0_; have HK := n1_; have HB := n2_; have HI0 := n3_; clear n0_ n1_ n2_ n3_; (try clear hb); (try clear hb2); (try clear hk); (try clear hi)) | ((with_reducible refine gate_builtin (b := .append) (xs := #[.tmp 12, .tmp 18]) rfl ?_); at_builtin; refine Kd.R_append (Kd.int .i64) w.heap.size rfl (.tmp 12) (.tmp 18) 23 3 (.int .i64 0) 8 rfl Try.underlying23 info3 rfl (by decide) (by omega) u5 x5_1 (wrap64 ((wrap64 (100 * t303)) + x6_1)) [.int .i64 (wrap64 ((wrap64 (100 * t303)) + x6_1))] (fun _ => True) (fun _ => False) rfl rfl ?aP (fun _ hk => hk.elim) ?aF ?aO (Below.refl _ _) ?aS ?aL ?_; (case aP => exact rfl); (case aF => exact (fun _ _ => trivial)); (case aO => exact (by (with_reducible repeat (first | apply Ra | apply Rn | apply Rd)); exact HO_5.out)); (case aS => exact (keep_size (w := w) (g := g) (row := none) (by repeat (first | (with_reducible first | exact HK.out | apply KeepBut.set_ | apply keep_drewN | apply keep_drew | apply keep_alloc) | exact HK.out)))); (case aL => have := LMc5.out; omega); intro v307 w7 ho hb hg hat; rw [← Ny306.out] at ho; have n0_ := Am (IsS94.grown (by repeat (first | (with_reducible first | exact HI0.out | apply IsS94.alloc | apply IsS94.drewN | apply IsS94.drew | apply IsS94.set_1 | apply IsS94.set_2) | exact HI0.out)) hg (IsS94.own_ne HI0.out HO_5.out (by decide))); have n1_ := Am (below_weaken (by repeat (first | (with_reducible first | exact HB.out | apply Ba | apply Bn | apply Bd | refine Bs ?_ (IsS94.ge HI0.out)) | exact HB.out)) HL.out hb); have n2_ := Am (KeepBut.trans (by repeat (first | (with_reducible first | exact HK.out | apply KeepBut.set_ | apply keep_drewN | apply keep_drew | apply keep_alloc) | exact HK.out)) (KeepBut.of_grown hg g) (Kd.R_base2 HO_5.out)); have n3_ := Am (ho); clear HI0; clear HB; clear HK; clear HO_5; have HI0 := n0_; have HB := n1_; have HK := n2_; have HO308 := n3_; clear n0_ n1_ n2_ n3_; clear ho hb hg hat))
     go_roundg k1
     case measure => have := HK1.out; omega
     case rel => exact ⟨(y306), (wrap64 (x6_1 + 1)), (t304), (t305), (by first | rfl | (simp; done) | (simp [*]; done)), H', ⟨by have := HK1.out; omega⟩, ⟨by (with_reducible repeat (first | apply Ra | apply Rn | apply Rd)); exact HO308.out⟩, ⟨by repeat (first | (with_reducible first | exact HI0.out | apply IsS94.alloc | apply IsS94.drewN | apply IsS94.drew | apply IsS94.set_1 | apply IsS94.set_2) | exact HI0.out)⟩, ⟨by repeat (first | (with_reducible first | exact HK.out | apply KeepBut.set_ | apply keep_drewN | apply keep_drew | apply keep_alloc) | exact HK.out)⟩, ⟨by repeat (first | (with_reducible first | exact HB.out | apply Ba | apply Bn | apply Bd | refine Bs ?_ (IsS94.ge HI0.out)) | exact HB.out)⟩⟩
    ·rw [if_neg c5] at H
     exact absurd H (by simp)
   ·rw [if_neg c3] at H
    have c3b0 : decide (x6_1 < a1) = false := decide_eq_false c3
    clear c3
    by_cases c8 : a1 > 1
    ·rw [if_pos c8] at H
     have c8b0 : decide (1 < a1) = true := decide_eq_true c8
     clear c8
     replace H := Option.bind_eq_some_iff.mp H
     obtain ⟨⟨t309, t310, t311⟩, A90, H⟩ := H
     replace H : (if t309 = true then (if 0 < (x5_1.length : Int) then (if 1 < (x5_1.length : Int) then (some ((x5_1.set (1 : Int).toNat (rd x5_1 0)), t310, t311)) else (none)) else (none)) else (some (x5_1, t310, t311))) = some (r1, r2, r3) := H
     have A9 := Am A90
     clear A90
     by_cases c10 : t309 = true
     ·subst c10
      have H1 : (if 0 < (x5_1.length : Int) then (if 1 < (x5_1.length : Int) then (some ((x5_1.set (1 : Int).toNat (rd x5_1 0)), t310, t311)) else (none)) else (none)) = some (r1, r2, r3) := by rw [if_pos rfl] at H; exact H
      clear H
      have H := H1
      clear H1
      by_cases c11 : 0 < (x5_1.length : Int)
      ·rw [if_pos c11] at H
       have c11b0 : decide (0 < (x5_1.length : Int)) = true := decide_eq_true c11
       have c11b1 : decide (0 < x5_1.length) = true := decide_eq_true (by omega)
       clear c11
       by_cases c12 : 1 < (x5_1.length : Int)
       ·rw [if_pos c12] at H
        have c12b0 : decide (1 < (x5_1.length : Int)) = true := decide_eq_true c12
        have c12b1 : decide (1 < x5_1.length) = true := decide_eq_true (by omega)
        clear c12
        obtain ⟨y313, hy313⟩ : ∃ y_ : List Int, y_ = (x5_1.set (1 : Int).toNat (rd x5_1 0)) := ⟨_, rfl⟩
        replace H : (some (y313, t310, t311)) = some (r1, r2, r3) := by first | (rw [hy313]; with_reducible exact H) | (have H2_ := (Option.bind_some _ _).symm.trans H; rw [hy313]; with_reducible exact H2_) | (have H2_ := (Option.bind_some _ _).symm.trans H; with_reducible exact H2_) | with_reducible exact H | (rw [hy313]; exact H) | exact H
        have Ny313 := Am hy313
        clear hy313
        simp only [Option.some.injEq, Prod.mk.injEq] at H
        obtain ⟨rfl, rfl, rfl⟩ := H
        go_wp2_with (first | (go_at_call 66; (with_reducible refine (spec_l1Cur_one.calls g s0_0 x1001_1 x1002_1 30 true t310 t311 w0 _ ?side1 ?side2 A9.out).mono ?_); (case side1 => repeat (first | (with_reducible first | exact HI0.out | apply IsS94.alloc | apply IsS94.drewN | apply IsS94.drew | apply IsS94.set_1 | apply IsS94.set_2) | exact HI0.out)); (case side2 => repeat (first | (with_reducible first | exact HB.out | apply Ba | apply Bn | apply Bd | refine Bs ?_ (IsS94.ge HI0.out)) | exact HB.out)); rintro e w14 ⟨rfl, hi, hb, hk⟩; have n0_ := Am (Kd.R_mono (Kd.R_keep (IsS94.apart (show IsS94 w0 _ g s0_0 x1001_1 x1002_1 from by repeat (first | (with_reducible first | exact HI0.out | apply IsS94.alloc | apply IsS94.drewN | apply IsS94.drew | apply IsS94.set_1 | apply IsS94.set_2) | exact HI0.out)) (by (with_reducible repeat (first | apply Ra | apply Rn | apply Rd)); exact HO_5.out) (by decide)) hk (fun _ h => h.2)) (fun _ h => h.1)); have n1_ := Am (KeepBut.trans (by repeat (first | (with_reducible first | exact HK.out | apply KeepBut.set_ | apply keep_drewN | apply keep_drew | apply keep_alloc) | exact HK.out)) hk (.inl rfl)); have n2_ := Am (hb); have n3_ := Am (hi); clear HO_5; clear HK; clear HB; clear HI0; have HO_5 := n0_; have HK := n1_; have HB := n2_; have HI0 := n3_; clear n0_ n1_ n2_ n3_; (try clear hb); (try clear hb2); (try clear hk); (try clear hi); obtain ⟨Ao15, co15, eo15⟩ := Kd.R_slice HO_5.out; subst eo15; have p312 : 0 ≤ (0 : Int) := (by omega); have q312 : 0 < (x5_1.length : Int) := of_decide_eq_true (by assumption); obtain ⟨ad312, e312, hx312_0⟩ := Kd.at_int (Kd.R_reads' HO_5.out).2.2 0 p312 q312; cases e312; have qi312 : (0 < x5_1.length) = True := eq_true (by omega); (try rw [show ((0 : Int)).toNat = 0 from rfl] at hx312_0); (try rw [Addr.add_zero'] at hx312_0); replace p312 := eq_true p312; replace q312 := eq_true q312; have p13 : 0 ≤ (1 : Int) := (by omega); have q13 : (1 : Int) < ((x5_1.length : Int) : Int) := of_decide_eq_true (by assumption); have qi13 : (1 < x5_1.length) = True := eq_true (by omega); obtain ⟨go13, co13, eo13, gb13, gl13, cl13, HG13⟩ := Kd.R_form HO_5.out (by omega); (first | cases eo13 | (injection eo13 with ea_ en_ ec_; (first | subst ea_ | (injection ea_ with ea_; subst ea_)); subst ec_; clear en_)); have GB13 := Am gb13; have GG13 := Am HG13; clear gb13 gl13 HG13; (first | simp only [add_plain] at hx312_0 | skip); obtain ⟨hx13_0, hf13_0⟩ := Kd.R_celln 0 HO_5.out (1 : Int) p13 q13; (try rw [show ((1 : Int)).toNat = 1 from rfl] at hx13_0); (try simp only [Nat.reduceMul, Nat.zero_mul, Nat.zero_add, Nat.reduceAdd] at hx13_0); (try rw [show ((1 : Int)).toNat = 1 from rfl] at hf13_0); (try simp only [Nat.reduceMul, Nat.zero_mul, Nat.zero_add, Nat.reduceAdd] at hf13_0); replace p13 := eq_true p13; replace q13 := eq_true q13; obtain ⟨hy16_, hz16_⟩ := Kd.R_celln 0 HO_5.out (1 : Int) (by omega) (of_decide_eq_true (by assumption)); (try simp only [Int.reduceToNat, Int.toNat_zero, Int.toNat_ofNat, Nat.reduceMul, Nat.zero_mul, Nat.zero_add] at hy16_ hz16_); (try rw [show ((1 : Int)).toNat = 1 from rfl] at hy16_); (try rw [show ((1 : Int)).toNat = 1 from rfl] at hz16_); have HP16 := Kd.R_putg HO_5.out (1 : Int) (rd x5_1 0)) | ((refine Gs (t := 3) (p := 30) rfl ?_); refine store_event (t := 3) (p := 30) (v := ?vo_w17) (w1 := (w14.setCell ⟨go13, (1 : Int).toNat, none⟩ (.int .i64 (rd x5_1 0)))) ?hg ?ho ?hn ?hr ?_; (case ho => rfl); (case hg => rfl); (case hn => rfl); (case hr => first | (go_simp; done) | (go_simp; rfl)); intro w17 hw; have hg : w14.grownBy w17 (some go13) := (by rw [hw]; exact HP16.2); have hp_ : Kd.R (Kd.int .i64) 3 w17 w.heap.size (fun _ => True) (.slice (some ⟨go13, 0, none⟩) x5_1.length co15) y313 := (by rw [hw, Ny313.out]; exact HP16.1); clear HP16; have n0_ := Am (hp_); have n1_ := Am (IsS94.grown (by repeat (first | (with_reducible first | exact HI0.out | apply IsS94.alloc | apply IsS94.drewN | apply IsS94.drew | apply IsS94.set_1 | apply IsS94.set_2) | exact HI0.out)) hg (IsS94.own_ne HI0.out HO_5.out (by decide))); have n2_ := Am ((by rw [hw]; exact Bs (HB.out) (Nat.le_trans HL.out GB13.out) : Below w0.heap.size w0 w17)); have n3_ := Am (KeepBut.trans (by repeat (first | (with_reducible first | exact HK.out | apply KeepBut.set_ | apply keep_drewN | apply keep_drew | apply keep_alloc) | exact HK.out)) (KeepBut.of_grown hg g) (Kd.R_base2 HO_5.out)); clear HO_5; clear HI0; clear HB; clear HK; have HO_5 := n0_; have HI0 := n1_; have HB := n2_; have HK := n3_; clear n0_ n1_ n2_ n3_; clear hg hw hp_))
        go_ret
        exact ⟨_, by first | rfl | (simp [*, errW_none, errW_some] <;> rfl), by (with_reducible repeat (first | apply Ra | apply Rn | apply Rd)); exact HO_5.out, by repeat (first | (with_reducible first | exact HI0.out | apply IsS94.alloc | apply IsS94.drewN | apply IsS94.drew | apply IsS94.set_1 | apply IsS94.set_2) | exact HI0.out), by repeat (first | (with_reducible first | exact HB.out | apply Ba | apply Bn | apply Bd | refine Bs ?_ (IsS94.ge HI0.out)) | exact HB.out), by repeat (first | (with_reducible first | exact HK.out | apply KeepBut.set_ | apply keep_drewN | apply keep_drew | apply keep_alloc) | exact HK.out)⟩
       ·rw [if_neg c12] at H
        exact absurd H (by simp)
      ·rw [if_neg c11] at H
       exact absurd H (by simp)
     ·replace c10 := Bool.eq_false_iff.mpr c10
      subst c10
      have H1 : (some (x5_1, t310, t311)) = some (r1, r2, r3) := by rw [if_neg (show ¬ (false = true) by decide)] at H; exact H
      clear H
      have H := H1
      clear H1
      simp only [Option.some.injEq, Prod.mk.injEq] at H
      obtain ⟨rfl, rfl, rfl⟩ := H
      go_wp2_with (first | (go_at_call 66; (with_reducible refine (spec_l1Cur_one.calls g s0_0 x1001_1 x1002_1 30 false t310 t311 w0 _ ?side1 ?side2 A9.out).mono ?_); (case side1 => repeat (first | (with_reducible first | exact HI0.out | apply IsS94.alloc | apply IsS94.drewN | apply IsS94.drew | apply IsS94.set_1 | apply IsS94.set_2) | exact HI0.out)); (case side2 => repeat (first | (with_reducible first | exact HB.out | apply Ba | apply Bn | apply Bd | refine Bs ?_ (IsS94.ge HI0.out)) | exact HB.out)); rintro e w18 ⟨rfl, hi, hb, hk⟩; have n0_ := Am (Kd.R_mono (Kd.R_keep (IsS94.apart (show IsS94 w0 _ g s0_0 x1001_1 x1002_1 from by repeat (first | (with_reducible first | exact HI0.out | apply IsS94.alloc | apply IsS94.drewN | apply IsS94.drew | apply IsS94.set_1 | apply IsS94.set_2) | exact HI0.out)) (by (with_reducible repeat (first | apply Ra | apply Rn | apply Rd)); exact HO_5.out) (by decide)) hk (fun _ h => h.2)) (fun _ h => h.1)); have n1_ := Am (KeepBut.trans (by repeat (first | (with_reducible first | exact HK.out | apply KeepBut.set_ | apply keep_drewN | apply keep_drew | apply keep_alloc) | exact HK.out)) hk (.inl rfl)); have n2_ := Am (hb); have n3_ := Am (hi); clear HO_5; clear HK; clear HB; clear HI0; have HO_5 := n0_; have HK := n1_; have HB := n2_; have HI0 := n3_; clear n0_ n1_ n2_ n3_; (try clear hb); (try clear hb2); (try clear hk); (try clear hi)))
      go_ret
      exact ⟨_, by first | rfl | (simp [*, errW_none, errW_some] <;> rfl), by (with_reducible repeat (first | apply Ra | apply Rn | apply Rd)); exact HO_5.out, by repeat (first | (with_reducible first | exact HI0.out | apply IsS94.alloc | apply IsS94.drewN | apply IsS94.drew | apply IsS94.set_1 | apply IsS94.set_2) | exact HI0.out), by repeat (first | (with_reducible first | exact HB.out | apply Ba | apply Bn | apply Bd | refine Bs ?_ (IsS94.ge HI0.out)) | exact HB.out), by repeat (first | (with_reducible first | exact HK.out | apply KeepBut.set_ | apply keep_drewN | apply keep_drew | apply keep_alloc) | exact HK.out)⟩
    ·rw [if_neg c8] at H
     have c8b0 : decide (1 < a1) = false := decide_eq_false c8
     clear c8
     simp only [Option.some.injEq, Prod.mk.injEq] at H
     obtain ⟨rfl, rfl, rfl⟩ := H
     go_wp2
     go_ret
     exact ⟨_, by first | rfl | (simp [*, errW_none, errW_some] <;> rfl), by (with_reducible repeat (first | apply Ra | apply Rn | apply Rd)); exact HO_5.out, by repeat (first | (with_reducible first | exact HI0.out | apply IsS94.alloc | apply IsS94.drewN | apply IsS94.drew | apply IsS94.set_1 | apply IsS94.set_2) | exact HI0.out), by repeat (first | (with_reducible first | exact HB.out | apply Ba | apply Bn | apply Bd | refine Bs ?_ (IsS94.ge HI0.out)) | exact HB.out), by repeat (first | (with_reducible first | exact HK.out | apply KeepBut.set_ | apply keep_drewN | apply keep_drew | apply keep_alloc) | exact HK.out)⟩
def spec_DrawOrderOf.f (k : Nat) (l0 : List Int) : Option (List (List Int) × List Int) := (spec_l1Cur_graph.f k l0 0 0).bind fun t => (spec_l1Cur_keys.f k l0 t.2.1 t.2.2 (t.1.length : Int)).bind fun q => some (t.1, q.1)
theorem spec_DrawOrderOf.mono : ∀ l0 k, LeO (spec_DrawOrderOf.f k l0) (spec_DrawOrderOf.f (k + 1) l0) := by
 intro l0 k
 unfold spec_DrawOrderOf.f
 exact LeO.bind (spec_l1Cur_graph.mono l0 0 0 k) (fun _ => LeO.bind (spec_l1Cur_keys.mono _ _ _ _ k) (fun _ => LeO.refl _))
set_option maxHeartbeats 8000000 in
set_option maxRecDepth 100000 in
theorem spec_DrawOrderOf.calls (k : Nat) (A0 : Option Addr) (c0 : Nat) (l0 : List Int) (r1 : List (List Int)) (r2 : List Int) (w : World) (hr0 : Kd.C (Kd.int .u8) w A0 l0.length l0) (hc0 : l0.length ≤ c0) (h : spec_DrawOrderOf.f k l0 = some (r1, r2)) :
  Calls Try.prog 16 #[.slice A0 l0.length c0] w fun e w' => ∃ v0_ v1_ : Value, e = .returned (.tuple #[v0_, v1_]) ∧ Kd.S (Kd.slice 3 (Kd.int .i64)) 23 w' w.heap.size (fun _ => True) v0_ r1 ∧ Kd.R (Kd.int .i64) 3 w' w.heap.size (fun _ => True) v1_ r2 ∧ Below w.heap.size w w' := by
 unfold spec_DrawOrderOf.f at h
 obtain ⟨⟨t1, a1, s1⟩, hg, h⟩ := Option.bind_eq_some_iff.1 h
 obtain ⟨⟨q1, a2, s2⟩, hq, h⟩ := Option.bind_eq_some_iff.1 h
 simp only [Option.some.injEq, Prod.mk.injEq] at h
 obtain ⟨rfl, rfl⟩ := h
 try dsimp only at hq
 have HG := Am hg
 have HQ := Am hq
 clear hg hq
 have HR := Am hr0
 clear hr0 hc0
 go_enter Try.func16, Try.ntmps16
 go_upto_region 2 with (fail)
 refine letC (fun W_ => Below w.heap.size w W_ ∧ W_.heap[w.heap.size]? = some (.cells #[.slice A0 l0.length c0, .int .i64 0, .int .u64 0] 94 (0, 0))) ⟨Ba (Below.refl _ _) _, blk_new w (.cells #[.slice A0 l0.length c0, .int .i64 0, .int .u64 0] 94)⟩ ?_
 rintro W0 ⟨hb, hx⟩
 have HB0 := Am hb
 have HI0 : Ad (IsS94 w W0 w.heap.size l0 0 0) := ⟨⟨A0, c0, hx, Nat.le_refl _, HR.out⟩⟩
 clear hb hx
 generalize w.heap.size = g at HI0
 go_wp2_with fail
 refine (spec_l1Cur_graph.calls k g l0 0 0 t1 a1 s1 w W0 HI0.out HB0.out HG.out).mono ?_
 rintro e W1 ⟨v, rfl, hS, hI, hB, hK⟩
 have HS1 := Am (Kd.S_lower hS HB0.out.size)
 have HI1 := Am hI
 have HB1 := Am hB
 clear hS hI hB hK HI0 HB0
 obtain ⟨A5, c5, e5⟩ := Kd.S_slice HS1.out
 subst e5
 go_wp2_with fail
 refine (spec_l1Cur_keys.calls k g l0 a1 s1 (t1.length : Int) q1 a2 s2 w W1 HI1.out HB1.out HQ.out).mono ?_
 rintro e W2 ⟨v, rfl, hR, hI, hB, hK⟩
 have HO2 := Am (Kd.R_lower hR HB1.out.size)
 clear hR
 obtain ⟨A6, c6, e6⟩ := Kd.R_slice HO2.out
 subst e6
 obtain ⟨_, _, hc_, _, _⟩ := HI1.out
 have HS2 := Am (Kd.S_mono (Kd.S_keep (Kd.S_types HS1.out hc_ (by decide)) hK (fun k_ hk => hk.2)) (fun _ _ => trivial))
 have HI2 := Am hI
 have HB2 := Am hB
 clear hI hB hK hc_ HI1 HB1 HS1
 go_wp2
 go_ret2
 exact ⟨_, _, rfl, HS2.out, HO2.out, HB2.out⟩
def impl_OrderOf.f (k : Nat) (l0 : List (List Int)) (l1 : List Int) : Option (List Int × Bool) := (impl_areKeys.f k l0 l1).bind fun t314 => (if t314 = true then ((impl_order.f k l0 l1).bind fun t315 => (some (t315, true))) else (some (([] : List Int), false)))
theorem impl_OrderOf.mono : ∀ a0 a1 k, LeO (impl_OrderOf.f k a0 a1) (impl_OrderOf.f (k + 1) a0 a1) := by
 intro a0 a1 k
 unfold impl_OrderOf.f
 repeat' first
   | (with_reducible exact impl_areKeys.mono _ _ _)
   | (with_reducible exact impl_order.mono _ _ _)
   | (with_reducible exact LeO.refl _)
   | (with_reducible exact LeO.none _)
   | (with_reducible refine LeO.ite ?_ ?_)
   | (with_reducible refine LeO.bind ?_ (fun _ => ?_))
   | exact impl_areKeys.mono _ _ _
   | exact impl_order.mono _ _ _
   | exact LeO.none _
   | refine LeO.ite ?_ ?_
   | refine LeO.bind ?_ (fun _ => ?_)
set_option maxHeartbeats 8000000 in
set_option maxRecDepth 100000 in
theorem impl_OrderOf.calls (k : Nat) (A0 : Option Addr) (c0 : Nat) (l0 : List (List Int)) (A1 : Option Addr) (c1 : Nat) (l1 : List Int) (r1 : List Int) (r2 : Bool) (w : World) (hr0 : Kd.C (Kd.slice 3 (Kd.int .i64)) w A0 l0.length l0) (hc0 : l0.length ≤ c0) (hr1 : Kd.C (Kd.int .i64) w A1 l1.length l1) (hc1 : l1.length ≤ c1) (h : impl_OrderOf.f k l0 l1 = some (r1, r2)) :
  Calls Try.prog 17 #[.slice A0 l0.length c0, .slice A1 l1.length c1] w fun e w' => ∃ v0_ : Value, e = .returned (.tuple #[v0_, .bool r2]) ∧ Kd.R (Kd.int .i64) 3 w' w.heap.size (fun _ => True) v0_ r1 ∧ Below w.heap.size w w' := by
 have HR0 := Am hr0
 have HC0 := Am hc0
 clear hr0 hc0
 have HR1 := Am hr1
 have HC1 := Am hc1
 clear hr1 hc1
 have HB := Am (Below.refl w.heap.size w)
 have H : ((impl_areKeys.f k l0 l1).bind fun t314 => (if t314 = true then ((impl_order.f k l0 l1).bind fun t315 => (some (t315, true))) else (some (([] : List Int), false)))) = some (r1, r2) := h
 clear h
 replace H := Option.bind_eq_some_iff.mp H
 obtain ⟨t314, A30, H⟩ := H
 replace H : (if t314 = true then ((impl_order.f k l0 l1).bind fun t315 => (some (t315, true))) else (some (([] : List Int), false))) = some (r1, r2) := H
 have A3 := Am A30
 clear A30
 by_cases c4 : t314 = true
 ·subst c4
  have H1 : ((impl_order.f k l0 l1).bind fun t315 => (some (t315, true))) = some (r1, r2) := by rw [if_pos rfl] at H; exact H
  clear H
  have H := H1
  clear H1
  replace H := Option.bind_eq_some_iff.mp H
  obtain ⟨t315, A50, H⟩ := H
  replace H : (some (t315, true)) = some (r1, r2) := H
  have A5 := Am A50
  clear A50
  simp only [Option.some.injEq, Prod.mk.injEq] at H
  obtain ⟨rfl, rfl⟩ := H
  go_enter Try.func17, Try.ntmps17
  go_wp2_with (first | ((refine Gc (f := 55) rfl ?_); refine goesL_ (some 8) rfl rfl Try.func55 (by kernel_rfl) rfl #[.slice A0 l0.length c0, .slice A1 l1.length c1] rfl (by first | rfl | (simp only [List.map_toArray, List.map_cons, List.map_nil]; first | done | rfl)) ?_; (with_reducible refine (impl_areKeys.calls k _ _ l0 _ _ l1 true _ ?side1 ?side2 ?side3 ?side4 A3.out).mono ?_); (case side1 => repeat (first | exact HR0.out | (with_reducible refine Kd.C_alloc ?_ _) | (with_reducible refine Kd.C_drewN ?_ _) | (with_reducible refine Kd.C_drew ?_))); (case side2 => exact HC0.out); (case side3 => repeat (first | exact HR1.out | (with_reducible refine Kd.C_alloc ?_ _) | (with_reducible refine Kd.C_drewN ?_ _) | (with_reducible refine Kd.C_drew ?_))); (case side4 => exact HC1.out); rintro e w6 ⟨rfl, hb⟩; refine ⟨_, rfl, ?_⟩; have n0_ := Am (Bt (by repeat (first | exact HB.out | apply Ba | apply Bn | apply Bd)) hb); clear HB; have HB := n0_; clear n0_; (try clear hb); (try clear hb2); (try clear hk); (try clear hi)) | ((refine Gc (f := 64) rfl ?_); refine goesL_ (some 12) rfl rfl Try.func64 (by kernel_rfl) rfl #[.slice A0 l0.length c0, .slice A1 l1.length c1] rfl (by first | rfl | (simp only [List.map_toArray, List.map_cons, List.map_nil]; first | done | rfl)) ?_; (with_reducible refine (impl_order.calls k _ _ l0 _ _ l1 t315 _ ?side1 ?side2 ?side3 ?side4 A5.out).mono ?_); (case side1 => repeat (first | exact (Kd.C_below HR0.out HB.out) | (with_reducible refine Kd.C_alloc ?_ _) | (with_reducible refine Kd.C_drewN ?_ _) | (with_reducible refine Kd.C_drew ?_))); (case side2 => exact HC0.out); (case side3 => repeat (first | exact (Kd.C_below HR1.out HB.out) | (with_reducible refine Kd.C_alloc ?_ _) | (with_reducible refine Kd.C_drewN ?_ _) | (with_reducible refine Kd.C_drew ?_))); (case side4 => exact HC1.out); rintro e w7 ⟨v316, rfl, ho0, hb⟩; refine ⟨_, rfl, ?_⟩; have n0_ := Am (Kd.R_lower ho0 (Bz (by repeat (first | exact HB.out | apply Ba | apply Bn | apply Bd)))); have n1_ := Am (Bt (by repeat (first | exact HB.out | apply Ba | apply Bn | apply Bd)) hb); clear HB; have HO317 := n0_; have HB := n1_; clear n0_ n1_; (try clear hb); (try clear hb2); (try clear hk); (try clear hi); (try clear ho0)))
  go_ret2
  exact ⟨_, by first | rfl | (simp [*, errW_none, errW_some] <;> rfl), by (with_reducible repeat (first | apply Ra | apply Rn | apply Rd)); exact HO317.out, by repeat (first | exact HB.out | apply Ba | apply Bn | apply Bd)⟩
 ·replace c4 := Bool.eq_false_iff.mpr c4
  subst c4
  have H1 : (some (([] : List Int), false)) = some (r1, r2) := by rw [if_neg (show ¬ (false = true) by decide)] at H; exact H
  clear H
  have H := H1
  clear H1
  simp only [Option.some.injEq, Prod.mk.injEq] at H
  obtain ⟨rfl, rfl⟩ := H
  go_enter Try.func17, Try.ntmps17
  go_wp2_with (first | ((refine Gc (f := 55) rfl ?_); refine goesL_ (some 8) rfl rfl Try.func55 (by kernel_rfl) rfl #[.slice A0 l0.length c0, .slice A1 l1.length c1] rfl (by first | rfl | (simp only [List.map_toArray, List.map_cons, List.map_nil]; first | done | rfl)) ?_; (with_reducible refine (impl_areKeys.calls k _ _ l0 _ _ l1 false _ ?side1 ?side2 ?side3 ?side4 A3.out).mono ?_); (case side1 => repeat (first | exact HR0.out | (with_reducible refine Kd.C_alloc ?_ _) | (with_reducible refine Kd.C_drewN ?_ _) | (with_reducible refine Kd.C_drew ?_))); (case side2 => exact HC0.out); (case side3 => repeat (first | exact HR1.out | (with_reducible refine Kd.C_alloc ?_ _) | (with_reducible refine Kd.C_drewN ?_ _) | (with_reducible refine Kd.C_drew ?_))); (case side4 => exact HC1.out); rintro e w8 ⟨rfl, hb⟩; refine ⟨_, rfl, ?_⟩; have n0_ := Am (Bt (by repeat (first | exact HB.out | apply Ba | apply Bn | apply Bd)) hb); clear HB; have HB := n0_; clear n0_; (try clear hb); (try clear hb2); (try clear hk); (try clear hi)))
  go_ret2
  exact ⟨_, by first | rfl | (simp [*, errW_none, errW_some] <;> rfl), by first | exact Kd.R_nil _ _ _ _ _ | exact Kd.N_nil _ _ _ _ _ | exact Kd.V_nil _ _ _ _ _ | exact Kd.Q_nil _ _ _ _ _ | exact Kd.S_nil _ _ _ _ _, by repeat (first | exact HB.out | apply Ba | apply Bn | apply Bd)⟩
def spec_l5Components.fe (g left : List (List Int)) (k : Nat) (p : Int) (i : Nat) : Bool := !(i == k) && Mine.anyP (fun n : Int => Mine.anyP (fun x => x == n) (g.getD p.toNat [])) (left.getD i [])
def spec_l5Components.fr (g left : List (List Int)) (k : Nat) : Bool := !Mine.anyP (fun p : Int => Mine.anyP (spec_l5Components.fe g left k p) (List.range' 0 left.length)) (left.getD k [])
def spec_l5Components.s (g : List (List Int)) : Nat → List (List Int) → Option (List (List Int))
 | 0, _ => none
 | f + 1, left => if left = [] then some [] else ((List.range left.length).find? (spec_l5Components.fr g left)).bind fun k => (spec_l5Components.s g f (left.eraseIdx k)).map (left.getD k [] :: ·)
def spec_l5Components.ok (n : Nat) (left : List (List Int)) : Bool := decide (left.length ≤ 1000) && left.all fun a => a.all fun p => decide (0 ≤ p ∧ p < (n : Int))
def spec_l5Components.f (k : Nat) (l0 : List (List Int)) : Option (List (List Int)) := (spec_l5Groups.f k l0).bind fun left => if spec_l5Components.ok l0.length left = true then spec_l5Components.s l0 k left else none
theorem spec_l5Components.mono_s (g : List (List Int)) : ∀ k left, LeO (spec_l5Components.s g k left) (spec_l5Components.s g (k + 1) left)
 | 0, _ => LeO.none _
 | k + 1, left => by
  unfold spec_l5Components.s
  exact LeO.ite (LeO.refl _) (LeO.bind (LeO.refl _) (fun j => LeO.map _ (spec_l5Components.mono_s g k _)))
theorem spec_l5Components.mono : ∀ a0 k, LeO (spec_l5Components.f k a0) (spec_l5Components.f (k + 1) a0) := by
 intro a0 k
 unfold spec_l5Components.f
 exact LeO.bind (spec_l5Groups.mono _ _) (fun _ => LeO.ite (spec_l5Components.mono_s _ _ _) (LeO.none _))
theorem spec_l5Components.okE {n : Nat} {left : List (List Int)} (h : spec_l5Components.ok n left = true) : left.length ≤ 1000 ∧ ∀ a ∈ left, ∀ p ∈ a, 0 ≤ p ∧ p < (n : Int) := by
 unfold spec_l5Components.ok at h
 simp only [Bool.and_eq_true, decide_eq_true_eq, List.all_eq_true] at h
 exact h
set_option maxHeartbeats 8000000 in
set_option maxRecDepth 100000 in
theorem spec_l5Components.calls (k : Nat) (A0 : Option Addr) (c0 : Nat) (l0 : List (List Int)) (r : List (List Int)) (w : World) (hr0 : Kd.C (Kd.slice 3 (Kd.int .i64)) w A0 l0.length l0) (hc0 : l0.length ≤ c0) (h : spec_l5Components.f k l0 = some r) :
  Calls Try.prog 75 #[.slice A0 l0.length c0] w fun e w' => ∃ v0_ : Value, e = .returned (v0_) ∧ Kd.S (Kd.slice 3 (Kd.int .i64)) 23 w' w.heap.size (fun _ => True) v0_ r ∧ Below w.heap.size w w' := by
 have hmax0 : l0.length ≤ 9223372036854775807 := hr0.2.1
 have HR0 := Am hr0
 have HC0 := Am hc0
 clear hr0 hc0
 unfold spec_l5Components.f at h
 cases hg : spec_l5Groups.f k l0 with
 | none => rw [hg] at h; cases h
 | some L =>
 rw [hg, Option.bind_some] at h
 by_cases hok : spec_l5Components.ok l0.length L = true
 case neg => rw [if_neg hok] at h; cases h
 rw [if_pos hok] at h
 have HG := Am hg
 have HK := Am (spec_l5Components.okE hok)
 have HS := Am h
 clear hg hok h
 go_enter Try.func75, Try.ntmps75
 go_wp2_with fail
 refine (spec_l5Groups.calls k A0 c0 l0 L w HR0.out HC0.out HG.out).mono ?_
 rintro e w1 ⟨vL, rfl, hS, hb⟩
 obtain ⟨ps, rfl, hR, hRows⟩ := Kd.S_rows hS
 have HL := Am hR
 have HW := Am hRows
 have HB := Am hb
 clear hS hR hRows hb HG
 go_wp2
 go_loopg [3, 4] k (fun f v3 v4 wr => ∃ (pl po : List (Hd × List Int)) (rs : List (List Int)), Ad (spec_l5Components.s l0 f (pl.map (·.2)) = some rs) ∧ Ad (po.map (·.2) ++ rs = r) ∧ Ad (po.length + pl.length ≤ 1000) ∧ Ad (∀ a ∈ pl.map (·.2), ∀ p ∈ a, 0 ≤ p ∧ p < (l0.length : Int)) ∧ Ad (Kd.Rows (Kd.int .i64) 3 wr w.heap.size (po ++ pl)) ∧ Ad (Kd.hd.R 23 wr w.heap.size (fun k_ => some k_ ≠ v4.ownBlock) v3 (pl.map (·.1))) ∧ Ad (Kd.hd.R 23 wr w.heap.size (fun k_ => some k_ ≠ v3.ownBlock) v4 (po.map (·.1))) ∧ Ad (Below w.heap.size w wr))
 case atStart => exact ⟨ps, [], r, HS, ⟨rfl⟩, ⟨by have := HK.out.1; simpa using this⟩, ⟨HK.out.2⟩, HW, ⟨Kd.R_mono HL.out (fun _ _ => by simp [Value.ownBlock])⟩, ⟨Kd.R_nil _ _ _ _ _⟩, HB⟩
 case round =>
  clear HS HK HL HW HB
  obtain ⟨pl, po, rs, HS, HE, HN, HP, HW, HL, HO, HB⟩ := hrel
  cases gk with
  | zero => exact absurd HS.out (by simp [spec_l5Components.s])
  | succ f1 =>
  obtain ⟨A3, c3, e3⟩ := Kd.R_slice HL.out
  obtain ⟨A4, c4, e4⟩ := Kd.R_slice HO.out
  rw [List.length_map] at e3 e4
  subst e3
  subst e4
  by_cases hne : pl = []
  ·subst hne
   have he : Ad (po.map (·.2) = r) := ⟨by
    have h1 := HS.out
    simp [spec_l5Components.s] at h1
    have h2 := HE.out
    rw [← h2, h1, List.append_nil]⟩
   go_wp2
   go_ret
   refine ⟨_, rfl, ?_, HB.out⟩
   rw [← he.out]
   refine Kd.rows_S (Kd.R_mono HO.out (fun _ _ => trivial)) ?_ rfl (by decide)
   have := HW.out
   rwa [List.append_nil] at this
  ·have hpos : 0 < pl.length := List.length_pos_iff.2 hne
   have h1 := HS.out
   rw [spec_l5Components.s, if_neg (by simpa using hne)] at h1
   obtain ⟨k0, hk0, h1⟩ := Option.bind_eq_some_iff.1 h1
   rw [List.length_map, List.find?_range_eq_some] at hk0
   obtain ⟨hf0, hlt0, hbef⟩ := hk0
   have hlt0 : k0 < pl.length := by simpa using hlt0
   obtain ⟨rs1, hs1, hrs⟩ := Option.map_eq_some_iff.1 h1
   have HS1 := Am hs1
   have HRS := Am hrs
   have HF0 := Am hf0
   have HBF := Am hbef
   have hposz : decide (0 < (pl.length : Int)) = true := decide_eq_true (by omega)
   clear h1 hs1 hrs hf0 hbef hne HS
   generalize hEL : (List.map (fun x => x.2) pl) = EL at HS1 HRS HF0 HBF HP
   have HEL := Am hEL
   clear hEL
   have hlen : EL.length = pl.length := by rw [← HEL.out, List.length_map]
   go_wp2
   go_loopg [3, 4, 22] pl.length (fun gg v3 v4 v22 wq => ∃ kk : Nat, kk ≤ k0 ∧ pl.length - kk ≤ gg ∧ v3 = .slice A3 pl.length c3 ∧ v4 = .slice A4 po.length c4 ∧ v22 = .int .i64 kk ∧ Ad (Below wr.heap.size wr wq))
   case atStart => exact ⟨0, Nat.zero_le _, by omega, rfl, rfl, by first | rfl | simp, ⟨Below.refl _ _⟩⟩
   case round =>
    obtain ⟨kk, hkk, hgg, rfl, rfl, rfl, HQ⟩ := hrel
    have HW1 := Am (HW.out.below HQ.out)
    have HL1 := Am (Kd.R_below HL.out HQ.out)
    have HO1 := Am (Kd.R_below HO.out HQ.out)
    have HB1 := Am (below_then HB.out HB.out.size HQ.out)
    clear HW HL HO HB
    have hkl : kk < pl.length := by omega
    have hpn : pl.length ≤ 1000 := by have := HN.out; omega
    have hkz : (kk : Int) < (pl.length : Int) := by omega
    have hk0z : (0 : Int) ≤ (kk : Int) := by omega
    obtain ⟨ad3, B, cB, x, rfl, hx, hp, hxe, hxc, hC⟩ := Kd.pair_at HL1.out (fun p hp => HW1.out.row p (List.mem_append_right _ hp)) kk hkl
    rw [HEL.out] at hxe
    have HM : Ad ((((B, x.length, cB), x) : Hd × List Int) ∈ pl) := ⟨List.mem_iff_getElem?.2 ⟨kk, hp⟩⟩
    have HXI : Ad (pl[kk]? = some ((B, x.length, cB), x)) := ⟨hp⟩
    have hxmem : x ∈ EL := by
     rw [← hxe]
     exact Mine.getD_mem EL [] kk (by omega)
    have HXP := Am (HP.out x hxmem)
    have HXE := Am hxe
    have hxm : x.length ≤ 9223372036854775807 := hC.2.1
    have hfr : Ad (spec_l5Components.fr l0 EL kk = !Mine.anyP (fun p : Int => Mine.anyP (spec_l5Components.fe l0 EL kk p) (List.range' 0 EL.length)) x) := ⟨by unfold spec_l5Components.fr; rw [hxe]⟩
    clear hC hxmem hxe hp
    have HXC := Am hxc
    clear hxc
    go_wp2
    go_loopg [7, 29] x.length (fun gg v7 v29 wy => ∃ (b : Bool) (j : Nat), j ≤ x.length ∧ x.length - j ≤ gg ∧ v7 = .bool b ∧ v29 = .int .i64 j ∧ Ad ((b && !Mine.anyP (fun p : Int => Mine.anyP (spec_l5Components.fe l0 EL kk p) (List.range' 0 EL.length)) (x.drop j)) = spec_l5Components.fr l0 EL kk) ∧ Ad (Below wr.heap.size wr wy))
    case atStart => exact ⟨true, 0, Nat.zero_le _, by omega, rfl, by first | rfl | simp, ⟨by rw [hfr.out]; simp⟩, ⟨Below.refl _ _⟩⟩
    case round =>
     clear hx
     obtain ⟨b, j, hj, hgg3, rfl, rfl, HF, HQ3⟩ := hrel
     by_cases hjlt : j < x.length
     ·have hjz : (j : Int) < (x.length : Int) := by omega
      obtain ⟨adx, rfl, hxj⟩ := Kd.at_int (Kd.R_reads' (show Kd.R (Kd.int .i64) 3 wr w.heap.size (fun _ => True) (.slice B x.length cB) x from Kd.R_below (HW1.out.row _ (List.mem_append_right _ HM.out)) HQ3.out)).2.2 (j : Int) (by omega) hjz
      rw [Int.toNat_natCast, rd, Int.toNat_natCast] at hxj
      have hmem : x.getD j 0 ∈ x := Mine.getD_mem _ _ _ hjlt
      have HDR := Am (show x.drop j = x.getD j 0 :: x.drop (j + 1) from Mine.drop_at x 0 j hjlt)
      generalize x.getD j 0 = y at hxj hmem HDR
      obtain ⟨hy0, hy1⟩ := HXP.out y hmem
      clear hmem
      obtain ⟨T3, hT3⟩ : ∃ T : Bool, T = (b && !Mine.anyP (spec_l5Components.fe l0 EL kk y) (List.range' 0 EL.length)) := ⟨_, rfl⟩
      have HT3 := Am hT3
      have HF3 : Ad ((T3 && !Mine.anyP (fun p : Int => Mine.anyP (spec_l5Components.fe l0 EL kk p) (List.range' 0 EL.length)) (x.drop (j + 1))) = spec_l5Components.fr l0 EL kk) := ⟨by rw [← HF.out, HDR.out, Mine.anyP_cons, hT3]; cases b <;> cases Mine.anyP (spec_l5Components.fe l0 EL kk y) (List.range' 0 EL.length) <;> rfl⟩
      clear hT3 HF HDR
      go_wp2
      go_loopg [7, 35] pl.length (fun gg v7 v35 wy => ∃ (b : Bool) (i : Nat), i ≤ pl.length ∧ pl.length - i ≤ gg ∧ v7 = .bool b ∧ v35 = .int .i64 i ∧ Ad ((b && !Mine.anyP (spec_l5Components.fe l0 EL kk y) (List.range' i (pl.length - i))) = T3) ∧ Ad (Below wr.heap.size wr wy))
      case atStart => exact ⟨b, 0, Nat.zero_le _, by omega, rfl, by first | rfl | simp, ⟨by rw [HT3.out, hlen, Nat.sub_zero]⟩, ⟨Below.refl _ _⟩⟩
      case round =>
       clear hxj HT3
       clear b
       obtain ⟨b, i, hi, hgg4, rfl, rfl, HF, HQ4⟩ := hrel
       have HQ4' := Am (below_then HQ3.out HQ3.out.size HQ4.out)
       by_cases hilt : i < pl.length
       ·have hiz : (i : Int) < (pl.length : Int) := by omega
        have hi0z : (0 : Int) ≤ (i : Int) := by omega
        obtain ⟨ad3', B2, cB2, z, e3', hz, hpz, hze, hzc, hCz⟩ := Kd.pair_at (Kd.R_below HL1.out HQ4'.out) (fun p hp => (HW1.out.below HQ4'.out).row p (List.mem_append_right _ hp)) i hilt
        injection e3' with e3'
        subst e3'
        rw [HEL.out] at hze
        have HMz : Ad ((((B2, z.length, cB2), z) : Hd × List Int) ∈ pl) := ⟨List.mem_iff_getElem?.2 ⟨i, hpz⟩⟩
        have hzm : z.length ≤ 9223372036854775807 := hCz.2.1
        have hfe : Ad (spec_l5Components.fe l0 EL kk y i = (!(i == kk) && Mine.anyP (fun n : Int => Mine.anyP (fun x => x == n) (l0.getD y.toNat [])) z)) := ⟨by unfold spec_l5Components.fe; rw [hze]⟩
        obtain ⟨T4, hT4⟩ : ∃ T : Bool, T = (b && !(!(i == kk) && Mine.anyP (fun n : Int => Mine.anyP (fun x => x == n) (l0.getD y.toNat [])) z)) := ⟨_, rfl⟩
        have HT4 := Am hT4
        have HF4 : Ad ((T4 && !Mine.anyP (spec_l5Components.fe l0 EL kk y) (List.range' (i + 1) (pl.length - (i + 1)))) = T3) := ⟨by
         rw [← HF.out, show pl.length - i = (pl.length - (i + 1)) + 1 by omega, List.range'_succ, Mine.anyP_cons, hfe.out, hT4]
         cases b <;> cases (!(i == kk) && Mine.anyP (fun n : Int => Mine.anyP (fun x => x == n) (l0.getD y.toNat [])) z) <;> rfl⟩
        clear hT4 HF hfe hze hpz hzc hCz
        go_wp2
        go_loopg [7, 42] z.length (fun gg v7 v42 wy => ∃ (b : Bool) (j : Nat), j ≤ z.length ∧ z.length - j ≤ gg ∧ v7 = .bool b ∧ v42 = .int .i64 j ∧ Ad ((b && !(!(i == kk) && Mine.anyP (fun n : Int => Mine.anyP (fun x => x == n) (l0.getD y.toNat [])) (z.drop j))) = T4) ∧ Ad (Below wr.heap.size wr wy))
        case atStart => exact ⟨b, 0, Nat.zero_le _, by omega, rfl, by first | rfl | simp, ⟨by rw [HT4.out]; rfl⟩, ⟨Below.refl _ _⟩⟩
        case round =>
         clear hz HT4
         clear b
         obtain ⟨b, j5, hj5, hgg5, rfl, rfl, HF, HQ5⟩ := hrel
         have HQ5' := Am (below_then HQ4'.out HQ4'.out.size HQ5.out)
         by_cases hj5lt : j5 < z.length
         ·have hj5z : (j5 : Int) < (z.length : Int) := by omega
          obtain ⟨adz, rfl, hzj⟩ := Kd.at_int (Kd.R_reads' (show Kd.R (Kd.int .i64) 3 wr w.heap.size (fun _ => True) (.slice B2 z.length cB2) z from Kd.R_below (HW1.out.row _ (List.mem_append_right _ HMz.out)) HQ5'.out)).2.2 (j5 : Int) (by omega) hj5z
          rw [Int.toNat_natCast, rd, Int.toNat_natCast] at hzj
          have HDR := Am (show z.drop j5 = z.getD j5 0 :: z.drop (j5 + 1) from Mine.drop_at z 0 j5 hj5lt)
          generalize z.getD j5 0 = n5 at hzj HDR
          have HF2 : Ad (∀ h : Bool, h = Mine.anyP (fun x => x == n5) (l0.getD y.toNat []) → ((b && !(!(i == kk) && h)) && !(!(i == kk) && Mine.anyP (fun n : Int => Mine.anyP (fun x => x == n) (l0.getD y.toNat [])) (z.drop (j5 + 1)))) = T4) := ⟨fun h hh => by
           rw [← HF.out, HDR.out, Mine.anyP_cons, hh]
           cases b <;> cases (i == kk) <;> cases Mine.anyP (fun x => x == n5) (l0.getD y.toNat []) <;> rfl⟩
          clear HF HDR
          cases b with
          | false =>
           go_wp2
           go_roundg (z.length - (j5 + 1))
           case measure => omega
           case rel => exact ⟨false, j5 + 1, by omega, by omega, rfl, by go_num, ⟨by have := HF2.out _ rfl; simpa using this⟩, HQ5⟩
          | true =>
           by_cases hik : i = kk
           ·have hikb : ((i : Int) == (kk : Int)) = true := by rw [hik]; exact beq_self_eq_true _
            go_wp2
            go_roundg (z.length - (j5 + 1))
            case measure => omega
            case rel => exact ⟨true, j5 + 1, by omega, by omega, rfl, by go_num, ⟨by have := HF2.out _ rfl; rw [hik, beq_self_eq_true] at this ⊢; simpa using this⟩, HQ5⟩
           ·have hikb : ((i : Int) == (kk : Int)) = false := beq_false_of_ne (by omega)
            have hikn : (i == kk) = false := beq_false_of_ne hik
            obtain ⟨adg, Ag, cg, rfl, hg, hgc, hgC⟩ := at_L1 (Kd.C_below HR0.out (below_then HB1.out HB1.out.size HQ5'.out)) y hy0 hy1
            have HRG := Am hgC
            have HCG := Am hgc
            have hge : rd_L1 l0 y = l0.getD y.toNat [] := rfl
            obtain ⟨K, hK⟩ := spec_l5Groups.has (rd_L1 l0 y) n5 hgC.2.1
            have HK := Am hK
            have HGE := Am hge
            generalize rd_L1 l0 y = gy at hg hgc HRG HCG HK HGE
            have HHB : Ad (Mine.anyP (fun x => x == n5) gy = Mine.anyP (fun x => x == n5) (l0.getD y.toNat [])) := ⟨by rw [HGE.out]⟩
            clear hgC hgc hge hK HGE
            generalize Mine.anyP (fun x => x == n5) gy = hb5 at HK HHB
            go_wp2_with fail
            refine (spec_l1Has.calls K Ag cg gy n5 hb5 wr HRG.out HCG.out HK.out).mono ?_
            rintro e w2 ⟨rfl, hd⟩
            have hbw := hd.below
            clear hd hg hzj
            have HQ6 := Am (below_then HQ5.out HQ5.out.size hbw)
            clear hbw
            cases hb5 with
            | true =>
             go_wp2
             go_roundg (z.length - (j5 + 1))
             case measure => omega
             case rel => exact ⟨false, j5 + 1, by omega, by omega, rfl, by go_num, ⟨by have := HF2.out _ HHB.out; simpa [hikn] using this⟩, HQ6⟩
            | false =>
             go_wp2
             go_roundg (z.length - (j5 + 1))
             case measure => omega
             case rel => exact ⟨true, j5 + 1, by omega, by omega, rfl, by go_num, ⟨by have := HF2.out _ HHB.out; simpa [hikn] using this⟩, HQ6⟩
         ·obtain rfl : j5 = z.length := by omega
          have hj5z : ¬ (z.length : Int) < (z.length : Int) := by omega
          have hbe : b = T4 := by
           have h1 := HF.out
           rw [List.drop_eq_nil_of_le (Nat.le_refl _)] at h1
           simpa [Mine.anyP] using h1
          have HF5 := Am (hbe ▸ HF4.out)
          clear hbe HF
          go_wp2
          go_roundg (pl.length - (i + 1))
          case measure => omega
          case rel => exact ⟨b, i + 1, by omega, by omega, rfl, by go_num, HF5, ⟨below_then HQ4.out HQ4.out.size HQ5.out⟩⟩
       ·obtain rfl : i = pl.length := by omega
        have hiz : ¬ (pl.length : Int) < (pl.length : Int) := by omega
        have hbe : b = T3 := by
         have h1 := HF.out
         rw [Nat.sub_self] at h1
         simpa [Mine.anyP] using h1
        have HF5 := Am (hbe ▸ HF3.out)
        clear hbe HF
        go_wp2
        go_roundg (x.length - (j + 1))
        case measure => omega
        case rel => exact ⟨b, j + 1, by omega, by omega, rfl, by go_num, HF5, ⟨below_then HQ3.out HQ3.out.size HQ4.out⟩⟩
     ·obtain rfl : j = x.length := by omega
      have hjz : ¬ (x.length : Int) < (x.length : Int) := by omega
      have hbe : b = spec_l5Components.fr l0 EL kk := by
       have h1 := HF.out
       rw [List.drop_eq_nil_of_le (Nat.le_refl _)] at h1
       simpa [Mine.anyP] using h1
      clear HF
      have HQ' := Am (below_then HQ.out HQ.out.size HQ3.out)
      cases b with
      | false =>
       have hne : kk ≠ k0 := fun h => by rw [h, HF0.out] at hbe; cases hbe
       clear hbe
       go_wp2
       go_roundg (pl.length - (kk + 1))
       case measure => omega
       case rel => exact ⟨kk + 1, by omega, by omega, rfl, rfl, by go_num, HQ'⟩
      | true =>
       have hk : kk = k0 := by
        rcases Nat.lt_or_ge kk k0 with h | h
        ·have := HBF.out kk h; rw [← hbe] at this; cases this
        ·omega
       subst hk
       clear hbe
       have HW2 := Am (HW1.out.below HQ3.out)
       have HL2 := Am (Kd.R_below HL1.out HQ3.out)
       have HO2 := Am (Kd.R_below HO1.out HQ3.out)
       have HB2 := Am (below_then HB1.out HB1.out.size HQ3.out)
       have HPERM : Ad ((po ++ pl).Perm ((po ++ [((B, x.length, cB), x)]) ++ pl.eraseIdx kk)) := ⟨by
        rw [List.append_assoc]
        refine List.Perm.append_left po ?_
        rw [List.eraseIdx_eq_take_drop_succ, List.singleton_append]
        have h1 : pl = pl.take kk ++ ((B, x.length, cB), x) :: pl.drop (kk + 1) := by
         obtain ⟨hl_, he_⟩ := List.getElem?_eq_some_iff.1 HXI.out
         rw [← he_, ← List.drop_eq_getElem_cons hl_, List.take_append_drop]
        conv => lhs; rw [h1]
        exact List.perm_middle⟩
       clear HW1 HL1 HO1 HB1 HQ HQ3 HQ' HM HF0 HBF HXP hfr
       obtain ⟨m1, hm1⟩ : ∃ m : Nat, m = kk + 1 := ⟨_, rfl⟩
       have hwk : IntKind.i64.wrap ((kk : Int) + 1) = (m1 : Int) := by rw [IntWalk.i64_in _ (by omega)]; omega
       obtain ⟨i0_, hi0_, _, hsz_, _⟩ := info_parts info23
       have hcut1 := cut_to (P := Try.prog) 22 23 .i64 Try.underlying22 hi0_ (some ad3) pl.length c3 (kk : Int) hk0z (by omega) (by have := (Kd.R_reads' HL2.out).2.1; omega)
       simp only [Int.toNat_natCast] at hcut1
       obtain ⟨A1, hcut2, hA1⟩ := print_cut_of (P := Try.prog) hdV ((none, 0, 0) : Hd) 22 23 .i64 Try.underlying22 hi0_ hsz_ (some ad3) pl.length c3 m1 (by omega)
       have HA1 := Am hA1
       have hcap : Ad (pl.length ≤ c3) := ⟨(Kd.R_reads' HL2.out).2.1⟩
       have HM1 := Am hm1
       clear hA1 hi0_ hsz_ hm1
       have HRT : Ad (∀ W : World, Kd.hd.R 23 W w.heap.size (fun _ => True) (.slice (some ad3) pl.length c3) (pl.map (·.1)) → Kd.C Kd.hd W (some ad3) kk ((pl.map (·.1)).take kk)) := ⟨fun W h => by
        have h1 := (Kd.R_reads' (Kd.R_take (m := kk) h (by rw [List.length_map]; omega))).2.2
        rwa [List.length_take, List.length_map, Nat.min_eq_left (by omega)] at h1⟩
       have HRD : Ad (∀ W : World, Kd.hd.R 23 W w.heap.size (fun _ => True) (.slice (some ad3) pl.length c3) (pl.map (·.1)) → Kd.C Kd.hd W A1 (pl.length - m1) ((pl.map (·.1)).drop m1)) := ⟨fun W h => by
        have h1 := Kd.reads_of_C (d := ((none, 0, 0) : Hd)) (Kd.R_reads' h).2.2
        rw [List.length_map] at h1
        exact Kd.C_of_reads (HA1.out W _ hcap.out h1)⟩
       clear HA1
       go_wp2_with (first | ((with_reducible refine gate_builtin (b := .append) (xs := #[.tmp 65, .tmp 67]) rfl ?_); at_builtin; refine Kd.R_append Kd.hd (w0 := w) w.heap.size rfl (.tmp 65) (.tmp 67) 22 23 (.slice none 0 0) 24 rfl Try.underlying22 info23 rfl (by decide) (by omega) (.slice A4 po.length c4) (po.map (·.1)) (B, x.length, cB) [.slice (B) (x.length) (cB)] (fun k_ => some k_ ≠ (Value.slice (some ad3) pl.length c3).ownBlock) (fun _ => False) rfl rfl ?aP (fun _ hk => hk.elim) ?aF ?aO ?aB ?aS ?aL ?_; (case aP => exact rfl); (case aB => exact HB2.out); (case aF => exact (fun k_ hk => Kd.fresh' (Kd.R_lt HL2.out) k_ hk)); (case aO => exact HO2.out); (case aS => exact (Bz HB2.out)); (case aL => have := HN.out; rw [List.length_map]; omega); intro v4 w3 ho hb hg hat; have HW3 := Am (HW2.out.over HO2.out (by decide) hg); have HL3 := Am (Kd.R_after (ok := fun _ => True) (Kd.R_mono HL2.out (fun _ hk => ⟨trivial, hk⟩)) hg hat); have HO3 := Am ho; have HB3 := Am hb; clear HW2 HL2 HO2 HB2; clear ho hb hg hat) | ((refine Gd (N := 69) rfl ?_); refine Kd.R_lit Kd.hd _ 23 ?hg (N := 69) ?hd (xs := ([] : List Hd)) (inner := []) (ok := fun _ => True) (okp := fun _ => True) ?hr ?hp (fun _ hk => hk) trivial (Below.refl _ _) (Nat.le_refl _) (by simp) ?_; (case hd | hg => rfl); (case hr => first | (go_simp; done) | (go_simp; rfl)); (case hp => exact (Reps.none _ _)); intro v69 w4 ho hb hg_ hnew_; have HZ4 := Am (Kd.R_lower (Kd.R_newR (Kd.R_newR ho HL3.out) HO3.out) HB3.out.size); have HL4 := Am (Kd.R_elder HL3.out ho hb); have HO4 := Am (Kd.R_elder HO3.out ho hb); have HW4 := Am (HW3.out.below hb); have HB4 := Am (below_then HB3.out HB3.out.size hb); clear ho hb hg_ hnew_ HL3 HO3 HW3 HB3) | ((with_reducible refine gate_builtin (b := .append) (xs := #[.tmp 69, .tmp 72]) rfl ?_); at_builtin; refine Kd.R_append_rows Kd.hd (w0 := w) w.heap.size rfl (.tmp 69) (.tmp 72) 22 23 (.slice none 0 0) 24 rfl Try.underlying22 info23 rfl (by decide) (by omega) v69 ([] : List Hd) ((pl.map (·.1)).take kk) (some ad3) kk c3 (fun k_ => (True ∧ some k_ ≠ (Value.slice (some ad3) pl.length c3).ownBlock) ∧ some k_ ≠ (v4 : Value).ownBlock) (fun _ => False) rfl rfl ?aO ?aR (fun _ _ h => h) (fun _ h => h.elim) ?aF ?aB ?aS ?aL ?_; (case aO => exact HZ4.out); (case aR => exact (HRT.out _ (Kd.R_mono HL4.out (fun _ _ => trivial)))); (case aF => exact (fun k_ hk => ⟨⟨trivial, Kd.fresh' (Kd.R_lt HL4.out) k_ hk⟩, Kd.fresh' (Kd.R_lt HO4.out) k_ hk⟩)); (case aB => exact HB4.out); (case aS => exact HB4.out.size); (case aL => have := HN.out; (try simp only [List.length_nil]); omega); intro v73 w5 ho hb hg hat; have HZ5 := Am ho; have HL5 := Am (Kd.R_after HL4.out hg hat); have HO5 := Am (Kd.R_after HO4.out hg hat); have HW5 := Am (HW4.out.over HZ4.out (by decide) hg); have HB5 := Am hb; clear ho hb hg hat HZ4 HL4 HO4 HW4 HB4) | ((with_reducible refine gate_builtin (b := .append) (xs := #[.tmp 74, .tmp 78]) rfl ?_); at_builtin; refine Kd.R_append_rows Kd.hd (w0 := w) w.heap.size rfl (.tmp 74) (.tmp 78) 22 23 (.slice none 0 0) 24 rfl Try.underlying22 info23 rfl (by decide) (by omega) v73 ([] ++ (pl.map (·.1)).take kk) ((pl.map (·.1)).drop m1) A1 (pl.length - m1) (c3 - m1) (fun k_ => (True ∧ some k_ ≠ (Value.slice (some ad3) pl.length c3).ownBlock) ∧ some k_ ≠ (v4 : Value).ownBlock) (fun _ => False) rfl rfl ?aO ?aR (fun _ _ h => h) (fun _ h => h.elim) ?aF ?aB ?aS ?aL ?_; (case aO => exact HZ5.out); (case aR => exact (HRD.out _ (Kd.R_mono HL5.out (fun _ _ => trivial)))); (case aF => exact (fun k_ hk => ⟨⟨trivial, Kd.fresh' (Kd.R_lt HL5.out) k_ hk⟩, Kd.fresh' (Kd.R_lt HO5.out) k_ hk⟩)); (case aB => exact HB5.out); (case aS => exact HB5.out.size); (case aL => have := HN.out; have := HM1.out; simp only [List.nil_append, List.length_take, List.length_map]; omega); intro v3 w6 ho hb hg hat; have HZ6 := Am ho; have HO6 := Am (Kd.R_after HO5.out hg hat); have HW6 := Am (HW5.out.over HZ5.out (by decide) hg); have HB6 := Am hb; clear ho hb hg hat HZ5 HL5 HO5 HW5 HB5))
       have HX : Ad ([] ++ (pl.map (·.1)).take kk ++ (pl.map (·.1)).drop m1 = (pl.eraseIdx kk).map (·.1)) := ⟨by rw [HM1.out, List.eraseIdx_eq_take_drop_succ, List.nil_append, List.map_append, List.map_take, List.map_drop]⟩
       have HY : Ad ((pl.eraseIdx kk).map (·.2) = EL.eraseIdx kk) := ⟨by rw [List.eraseIdx_eq_take_drop_succ, List.eraseIdx_eq_take_drop_succ, List.map_append, List.map_take, List.map_drop, HEL.out]⟩
       go_roundg f1
       case measure => omega
       case rel => exact ⟨pl.eraseIdx kk, po ++ [((B, x.length, cB), x)], rs1, ⟨by rw [HY.out]; exact HS1.out⟩, ⟨by rw [← HE.out, ← HRS.out, HXE.out]; simp⟩, ⟨by have := HN.out; rw [List.length_append, List.length_eraseIdx_of_lt hkl]; simp; omega⟩, ⟨fun a ha => HP.out a (by rw [HY.out] at ha; exact (List.eraseIdx_sublist _ _).subset ha)⟩, ⟨HW6.out.perm HPERM.out⟩, ⟨by rw [← HX.out]; exact Kd.R_mono HZ6.out (fun _ hk => hk.2)⟩, ⟨by rw [List.map_append]; exact Kd.R_mono HO6.out (fun _ hk => hk.2)⟩, HB6⟩
def spec_l5Order.l0 : Nat → List Int → List Int → List (List Int) → Int → Int → Option (List Int)
 | 0, _, _, _, _, _ => none
 | k + 1, x1, x5, x9, x10, x11 => if x11 < x10 then (if 0 ≤ x11 then (if x11 < (x9.length : Int) then ((spec_l5ByKey.f k (rd_L1 x9 x11) x1).bind fun t322 => (if x5.length + t322.length < 17592186044416 then (spec_l5Order.l0 k x1 (x5 ++ t322) x9 x10 (wrap64 (x11 + 1))) else (none))) else (none)) else (none)) else (some x5)
def spec_l5Order.f (k : Nat) (l0 : List (List Int)) (l1 : List Int) : Option (List Int) := (spec_l5Components.f k l0).bind fun t318 => (spec_l5Order.l0 k l1 ([] : List Int) t318 (t318.length : Int) 0)
theorem spec_l5Order.mono_l : ∀ k, (∀ y0 y1 y2 y3 y4, LeO (spec_l5Order.l0 k y0 y1 y2 y3 y4) (spec_l5Order.l0 (k + 1) y0 y1 y2 y3 y4))
 | 0 => fun _ _ _ _ _ r h => by simp [spec_l5Order.l0] at h
 | k + 1 => by
  have ih0 := spec_l5Order.mono_l k
  ·intro y0 y1 y2 y3 y4
   unfold spec_l5Order.l0
   repeat' first
   | (with_reducible exact ih0 _ _ _ _ _)
   | (with_reducible exact spec_l5ByKey.mono _ _ _)
   | (with_reducible exact spec_l5Components.mono _ _)
   | (with_reducible exact LeO.refl _)
   | (with_reducible exact LeO.none _)
   | (with_reducible refine LeO.ite ?_ ?_)
   | (with_reducible refine LeO.bind ?_ (fun _ => ?_))
   | exact ih0 _ _ _ _ _
   | exact spec_l5ByKey.mono _ _ _
   | exact spec_l5Components.mono _ _
   | exact LeO.none _
   | refine LeO.ite ?_ ?_
   | refine LeO.bind ?_ (fun _ => ?_)
theorem spec_l5Order.mono : ∀ a0 a1 k, LeO (spec_l5Order.f k a0 a1) (spec_l5Order.f (k + 1) a0 a1) := by
 intro a0 a1 k
 have ih0 := spec_l5Order.mono_l k
 unfold spec_l5Order.f
 repeat' first
   | (with_reducible exact ih0 _ _ _ _ _)
   | (with_reducible exact spec_l5ByKey.mono _ _ _)
   | (with_reducible exact spec_l5Components.mono _ _)
   | (with_reducible exact LeO.refl _)
   | (with_reducible exact LeO.none _)
   | (with_reducible refine LeO.ite ?_ ?_)
   | (with_reducible refine LeO.bind ?_ (fun _ => ?_))
   | exact ih0 _ _ _ _ _
   | exact spec_l5ByKey.mono _ _ _
   | exact spec_l5Components.mono _ _
   | exact LeO.none _
   | refine LeO.ite ?_ ?_
   | refine LeO.bind ?_ (fun _ => ?_)
set_option maxHeartbeats 8000000 in
set_option maxRecDepth 100000 in
theorem spec_l5Order.calls (k : Nat) (A0 : Option Addr) (c0 : Nat) (l0 : List (List Int)) (A1 : Option Addr) (c1 : Nat) (l1 : List Int) (r : List Int) (w : World) (hr0 : Kd.C (Kd.slice 3 (Kd.int .i64)) w A0 l0.length l0) (hc0 : l0.length ≤ c0) (hr1 : Kd.C (Kd.int .i64) w A1 l1.length l1) (hc1 : l1.length ≤ c1) (h : spec_l5Order.f k l0 l1 = some r) :
  Calls Try.prog 65 #[.slice A0 l0.length c0, .slice A1 l1.length c1] w fun e w' => ∃ v0_ : Value, e = .returned (v0_) ∧ Kd.R (Kd.int .i64) 3 w' w.heap.size (fun _ => True) v0_ r ∧ Below w.heap.size w w' := by
 have HR0 := Am hr0
 have HC0 := Am hc0
 clear hr0 hc0
 have HR1 := Am hr1
 have HC1 := Am hc1
 clear hr1 hc1
 have HB := Am (Below.refl w.heap.size w)
 have H : ((spec_l5Components.f k l0).bind fun t318 => (spec_l5Order.l0 k l1 ([] : List Int) t318 (t318.length : Int) 0)) = some r := h
 clear h
 replace H := Option.bind_eq_some_iff.mp H
 obtain ⟨t318, A30, H⟩ := H
 replace H : (spec_l5Order.l0 k l1 ([] : List Int) t318 (t318.length : Int) 0) = some r := H
 have A3 := Am A30
 clear A30
 have H' := Am H
 clear H
 go_enter Try.func65, Try.ntmps65
 go_wp2_with (first | ((refine Gc (f := 75) rfl ?_); refine goesL_ (some 9) rfl rfl Try.func75 (by kernel_rfl) rfl #[.slice A0 l0.length c0] rfl (by first | rfl | (simp only [List.map_toArray, List.map_cons, List.map_nil]; first | done | rfl)) ?_; (with_reducible refine (spec_l5Components.calls k _ _ l0 t318 _ ?side1 ?side2 A3.out).mono ?_); (case side1 => repeat (first | exact HR0.out | (with_reducible refine Kd.C_alloc ?_ _) | (with_reducible refine Kd.C_drewN ?_ _) | (with_reducible refine Kd.C_drew ?_))); (case side2 => exact HC0.out); rintro e w4 ⟨v319, rfl, ho0, hb⟩; refine ⟨_, rfl, ?_⟩; have n0_ := Am (Kd.S_lower ho0 (Bz (by repeat (first | exact HB.out | apply Ba | apply Bn | apply Bd)))); have n1_ := Am (Bt (by repeat (first | exact HB.out | apply Ba | apply Bn | apply Bd)) hb); clear HB; have HO320 := n0_; have HB := n1_; clear n0_ n1_; (try clear hb); (try clear hb2); (try clear hk); (try clear hi); (try clear ho0); obtain ⟨Ao5, co5, eo5⟩ := Kd.S_slice HO320.out; subst eo5))
 go_loopg [5, 11] k (fun kq v5 v11 w' => ∃ (x5_1 : List Int) (x11_1 : Int), v11 = .int .i64 x11_1 ∧ Ad (spec_l5Order.l0 kq l1 x5_1 t318 (t318.length : Int) x11_1 = some r) ∧ Ad (kq ≤ k) ∧ Ad (Kd.R (Kd.int .i64) 3 w' w.heap.size (fun _ => True) v5 x5_1) ∧ Ad (Kd.S (Kd.slice 3 (Kd.int .i64)) 23 w' w.heap.size (fun k_ => some k_ ≠ (v5 : Value).ownBlock) (.slice Ao5 t318.length co5) t318) ∧ Ad (Below w.heap.size w w'))
 case atStart => exact ⟨(([] : List Int)), (0), (by first | rfl | (simp; done) | (simp [*]; done)), H', ⟨Nat.le_refl _⟩, ⟨by first | exact Kd.R_nil _ _ _ _ _ | exact Kd.N_nil _ _ _ _ _ | exact Kd.V_nil _ _ _ _ _ | exact Kd.Q_nil _ _ _ _ _ | exact Kd.S_nil _ _ _ _ _⟩, ⟨by (with_reducible repeat (first | apply Sa | apply Sn | apply Sd)); exact Kd.S_mono HO320.out (fun _ hk => (by simp [Value.ownBlock]))⟩, ⟨by repeat (first | exact HB.out | apply Ba | apply Bn | apply Bd)⟩⟩
 case round =>
  clear H'
  try clear c1
  try clear p2
  obtain ⟨x5_1, x11_1, rfl, HA, HK1, HO_5, HO_9, HB⟩ := hrel
  cases gk with
  | zero => exact absurd HA.out (by simp [spec_l5Order.l0])
  | succ k1 =>
   have H := HA.out
   clear HA
   simp only [spec_l5Order.l0] at H
   by_cases c6 : x11_1 < (t318.length : Int)
   ·rw [if_pos c6] at H
    have c6b0 : decide (x11_1 < (t318.length : Int)) = true := decide_eq_true c6
    clear c6
    by_cases c7 : 0 ≤ x11_1
    ·rw [if_pos c7] at H
     have c7b0 : decide (0 ≤ x11_1) = true := decide_eq_true c7
     clear c7
     by_cases c8 : x11_1 < (t318.length : Int)
     ·rw [if_pos c8] at H
      have c8b0 : decide (x11_1 < (t318.length : Int)) = true := decide_eq_true c8
      clear c8
      replace H := Option.bind_eq_some_iff.mp H
      obtain ⟨t322, A90, H⟩ := H
      replace H : (if x5_1.length + t322.length < 17592186044416 then (spec_l5Order.l0 k1 l1 (x5_1 ++ t322) t318 (t318.length : Int) (wrap64 (x11_1 + 1))) else (none)) = some r := H
      have A9 := Am A90
      clear A90
      by_cases c10 : x5_1.length + t322.length < 17592186044416
      ·rw [if_pos c10] at H
       have LMc10 := Am c10
       clear c10
       obtain ⟨y325, hy325⟩ : ∃ y_ : List Int, y_ = (x5_1 ++ t322) := ⟨_, rfl⟩
       replace H : (spec_l5Order.l0 k1 l1 y325 t318 (t318.length : Int) (wrap64 (x11_1 + 1))) = some r := by first | (rw [hy325]; with_reducible exact H) | (have H2_ := (Option.bind_some _ _).symm.trans H; rw [hy325]; with_reducible exact H2_) | (have H2_ := (Option.bind_some _ _).symm.trans H; with_reducible exact H2_) | with_reducible exact H | (rw [hy325]; exact H) | exact H
       have Ny325 := Am hy325
       clear hy325
       have H' := Am H
       clear H
       have p321 : 0 ≤ (x11_1 : Int) := of_decide_eq_true (by assumption)
       have q321 : x11_1 < (t318.length : Int) := of_decide_eq_true (by assumption)
       obtain ⟨ad321, A321_0, c321_0, e321, hx321_0, hl321_0, hi321_0⟩ := at_L1 (Kd.S_reads' HO_9.out).2.2 x11_1 p321 q321
       cases e321
       obtain ⟨ce321, hce321, hMe321, hcc321⟩ := Kd.S_get HO_9.out [] x11_1 p321 (by first | exact q321 | exact of_decide_eq_true (by assumption) | (have e_ := (Kd.S_reads' HO_9.out).1; omega))
       obtain ⟨ve321_0, rfl, ge321_0⟩ := hMe321
       have hv321_0 := hcc321 0 _ rfl
       rw [Nat.add_zero, show ((Kd.slice 3 (Kd.int .i64))).sz = 1 from rfl, Nat.mul_one] at hv321_0
       replace hv321_0 := Option.some.inj (hv321_0.symm.trans hx321_0)
       rw [hv321_0] at ge321_0
       have HL321_0 := Am (show Kd.R (Kd.int .i64) 3 _ _ _ _ (rd_L1 t318 x11_1) from ge321_0)
       clear hv321_0 ge321_0
       clear hcc321 hce321
       have HR321_0 := Am hi321_0
       have HC321_0 := Am hl321_0
       clear hi321_0 hl321_0
       replace p321 := eq_true p321
       replace q321 := eq_true q321
       go_wp2_with (first | ((refine Gc (f := 52) rfl ?_); refine goesL_ (some 18) rfl rfl Try.func52 (by kernel_rfl) rfl #[.slice A321_0 (rd_L1 t318 x11_1).length c321_0, .slice A1 l1.length c1] rfl (by first | rfl | (simp only [List.map_toArray, List.map_cons, List.map_nil]; first | done | rfl)) ?_; (with_reducible refine (spec_l5ByKey.calls k1 _ _ (rd_L1 t318 x11_1) _ _ l1 t322 _ ?side1 ?side2 ?side3 ?side4 A9.out).mono ?_); (case side1 => repeat (first | exact (by repeat (first | (with_reducible exact HR321_0.out) | (with_reducible refine Kd.C_alloc ?_ _) | (with_reducible refine Kd.C_drewN ?_ _) | (with_reducible refine Kd.C_drew ?_) | exact HR321_0.out)) | (with_reducible refine Kd.C_alloc ?_ _) | (with_reducible refine Kd.C_drewN ?_ _) | (with_reducible refine Kd.C_drew ?_))); (case side2 => exact HC321_0.out); (case side3 => repeat (first | exact (Kd.C_below HR1.out HB.out) | (with_reducible refine Kd.C_alloc ?_ _) | (with_reducible refine Kd.C_drewN ?_ _) | (with_reducible refine Kd.C_drew ?_))); (case side4 => exact HC1.out); rintro e w11 ⟨v323, rfl, ho0, hb⟩; refine ⟨_, rfl, ?_⟩; have n0_ := Am (Kd.R_elder' (by (with_reducible repeat (first | apply Ra | apply Rn | apply Rd)); exact HO_5.out) (Kd.R_base ho0) hb); have n1_ := Am (Kd.S_elder' (by (with_reducible repeat (first | apply Sa | apply Sn | apply Sd)); exact HO_9.out) (Kd.R_base ho0) hb); have n2_ := Am (Kd.R_elder' (by (with_reducible repeat (first | apply Ra | apply Rn | apply Rd)); exact HL321_0.out) (Kd.R_base ho0) hb); have n3_ := Am (Kd.R_lower (Kd.R_new' (Kd.R_new' ho0 (Kd.R_lt (by (with_reducible repeat (first | apply Ra | apply Rn | apply Rd)); exact HO_5.out))) (Kd.R_lt (by (with_reducible repeat (first | apply Ra | apply Rn | apply Rd)); exact HL321_0.out))) (Bz (by repeat (first | exact HB.out | apply Ba | apply Bn | apply Bd)))); have n4_ := Am (Kd.C_below (by repeat (first | (with_reducible exact HR321_0.out) | (with_reducible refine Kd.C_alloc ?_ _) | (with_reducible refine Kd.C_drewN ?_ _) | (with_reducible refine Kd.C_drew ?_) | exact HR321_0.out)) hb); have n5_ := Am (Bt (by repeat (first | exact HB.out | apply Ba | apply Bn | apply Bd)) hb); clear HO_5; clear HO_9; clear HL321_0; clear HR321_0; clear HB; have HO_5 := n0_; have HO_9 := n1_; have HL321_0 := n2_; have HO324 := n3_; have HR321_0 := n4_; have HB := n5_; clear n0_ n1_ n2_ n3_ n4_ n5_; (try clear hb); (try clear hb2); (try clear hk); (try clear hi); (try clear ho0); obtain ⟨Ao13, co13, eo13⟩ := Kd.R_slice HO324.out; subst eo13) | ((with_reducible refine gate_builtin (b := .append) (xs := #[.tmp 15, .tmp 18]) rfl ?_); at_builtin; refine Kd.R_append_rows (Kd.int .i64) (w0 := w) w.heap.size rfl (.tmp 15) (.tmp 18) 23 3 (.int .i64 0) 8 rfl Try.underlying23 info3 rfl (by decide) (by omega) u5 x5_1 t322 _ _ _ (fun k_ => some k_ ≠ (.slice Ao13 t322.length co13 : Value).ownBlock) (fun _ => False) rfl rfl ?aO ?aR (fun _ _ h => h) (fun _ h => h.elim) ?aF ?aB ?aS ?aL ?_; (case aR => repeat (first | exact (Kd.R_reads' HO324.out).2.2 | (with_reducible refine Kd.C_alloc ?_ _) | (with_reducible refine Kd.C_drewN ?_ _) | (with_reducible refine Kd.C_drew ?_))); (case aB => exact (by repeat (first | exact HB.out | apply Ba | apply Bn | apply Bd))); (case aF => exact (fun k_ hk => Kd.fresh' (Kd.R_lt (by (with_reducible repeat (first | apply Ra | apply Rn | apply Rd)); exact HO324.out)) k_ hk)); (case aO => exact (by (with_reducible repeat (first | apply Ra | apply Rn | apply Rd)); exact Kd.R_mono HO_5.out (fun _ hk => hk.2))); (case aS => exact (Bz (by repeat (first | exact HB.out | apply Ba | apply Bn | apply Bd)))); (case aL => have := LMc10.out; omega); intro v326 w12 ho hb hg hat; rw [← Ny325.out] at ho; have n0_ := Am (Kd.S_after (ok := (fun k_ => some k_ ≠ (.slice Ao13 t322.length co13 : Value).ownBlock)) (by (with_reducible repeat (first | apply Sa | apply Sn | apply Sd)); exact Kd.S_mono HO_9.out (fun _ hk => ⟨hk.2, hk.1⟩)) hg hat); have n1_ := Am (Kd.R_after (ok := (fun k_ => some k_ ≠ (.slice (some ad321) t318.length co5 : Value).ownBlock ∧ some k_ ≠ (.slice Ao13 t322.length co13 : Value).ownBlock)) (by (with_reducible repeat (first | apply Ra | apply Rn | apply Rd)); exact Kd.R_mono HL321_0.out (fun _ hk => ⟨⟨hk.1.2, hk.2⟩, hk.1.1⟩)) hg hat); have n2_ := Am (Kd.R_after (ok := (fun k_ => some k_ ≠ (.slice A321_0 (rd_L1 t318 x11_1).length c321_0 : Value).ownBlock)) (by (with_reducible repeat (first | apply Ra | apply Rn | apply Rd)); exact Kd.R_mono HO324.out (fun _ hk => ⟨hk.2, hk.1.2⟩)) hg hat); have n3_ := Am (hb); have n4_ := Am (ho); clear HO_9; clear HL321_0; clear HO324; clear HB; clear HO_5; have HO_9 := n0_; have HL321_0 := n1_; have HO324 := n2_; have HB := n3_; have HO327 := n4_; clear n0_ n1_ n2_ n3_ n4_; clear ho hb hg hat))
       go_roundg k1
       case measure => have := HK1.out; omega
       case rel => exact ⟨(y325), (wrap64 (x11_1 + 1)), (by first | rfl | (simp; done) | (simp [*]; done)), H', ⟨by have := HK1.out; omega⟩, ⟨by (with_reducible repeat (first | apply Ra | apply Rn | apply Rd)); exact Kd.R_mono HO327.out (fun _ hk => trivial)⟩, ⟨by (with_reducible repeat (first | apply Sa | apply Sn | apply Sd)); exact Kd.S_mono HO_9.out (fun _ hk => hk.2)⟩, ⟨by repeat (first | exact HB.out | apply Ba | apply Bn | apply Bd)⟩⟩
      ·rw [if_neg c10] at H
       exact absurd H (by simp)
     ·rw [if_neg c8] at H
      exact absurd H (by simp)
    ·rw [if_neg c7] at H
     exact absurd H (by simp)
   ·rw [if_neg c6] at H
    have c6b0 : decide (x11_1 < (t318.length : Int)) = false := decide_eq_false c6
    clear c6
    obtain rfl := Option.some.inj H
    go_wp2
    go_ret
    exact ⟨_, by first | rfl | (simp [*, errW_none, errW_some] <;> rfl), by (with_reducible repeat (first | apply Ra | apply Rn | apply Rd)); exact HO_5.out, by repeat (first | exact HB.out | apply Ba | apply Bn | apply Bd)⟩
def spec_OrderOf.f (k : Nat) (l0 : List (List Int)) (l1 : List Int) : Option (List Int × Bool) := (spec_l5Keys.f k l0 l1).bind fun t328 => (if t328 = true then ((spec_l5Order.f k l0 l1).bind fun t329 => (some (t329, true))) else (some (([] : List Int), false)))
theorem spec_OrderOf.mono : ∀ a0 a1 k, LeO (spec_OrderOf.f k a0 a1) (spec_OrderOf.f (k + 1) a0 a1) := by
 intro a0 a1 k
 unfold spec_OrderOf.f
 repeat' first
   | (with_reducible exact spec_l5Keys.mono _ _ _)
   | (with_reducible exact spec_l5Order.mono _ _ _)
   | (with_reducible exact LeO.refl _)
   | (with_reducible exact LeO.none _)
   | (with_reducible refine LeO.ite ?_ ?_)
   | (with_reducible refine LeO.bind ?_ (fun _ => ?_))
   | exact spec_l5Keys.mono _ _ _
   | exact spec_l5Order.mono _ _ _
   | exact LeO.none _
   | refine LeO.ite ?_ ?_
   | refine LeO.bind ?_ (fun _ => ?_)
set_option maxHeartbeats 8000000 in
set_option maxRecDepth 100000 in
theorem spec_OrderOf.calls (k : Nat) (A0 : Option Addr) (c0 : Nat) (l0 : List (List Int)) (A1 : Option Addr) (c1 : Nat) (l1 : List Int) (r1 : List Int) (r2 : Bool) (w : World) (hr0 : Kd.C (Kd.slice 3 (Kd.int .i64)) w A0 l0.length l0) (hc0 : l0.length ≤ c0) (hr1 : Kd.C (Kd.int .i64) w A1 l1.length l1) (hc1 : l1.length ≤ c1) (h : spec_OrderOf.f k l0 l1 = some (r1, r2)) :
  Calls Try.prog 18 #[.slice A0 l0.length c0, .slice A1 l1.length c1] w fun e w' => ∃ v0_ : Value, e = .returned (.tuple #[v0_, .bool r2]) ∧ Kd.R (Kd.int .i64) 3 w' w.heap.size (fun _ => True) v0_ r1 ∧ Below w.heap.size w w' := by
 have HR0 := Am hr0
 have HC0 := Am hc0
 clear hr0 hc0
 have HR1 := Am hr1
 have HC1 := Am hc1
 clear hr1 hc1
 have HB := Am (Below.refl w.heap.size w)
 have H : ((spec_l5Keys.f k l0 l1).bind fun t328 => (if t328 = true then ((spec_l5Order.f k l0 l1).bind fun t329 => (some (t329, true))) else (some (([] : List Int), false)))) = some (r1, r2) := h
 clear h
 replace H := Option.bind_eq_some_iff.mp H
 obtain ⟨t328, A30, H⟩ := H
 replace H : (if t328 = true then ((spec_l5Order.f k l0 l1).bind fun t329 => (some (t329, true))) else (some (([] : List Int), false))) = some (r1, r2) := H
 have A3 := Am A30
 clear A30
 by_cases c4 : t328 = true
 ·subst c4
  have H1 : ((spec_l5Order.f k l0 l1).bind fun t329 => (some (t329, true))) = some (r1, r2) := by rw [if_pos rfl] at H; exact H
  clear H
  have H := H1
  clear H1
  replace H := Option.bind_eq_some_iff.mp H
  obtain ⟨t329, A50, H⟩ := H
  replace H : (some (t329, true)) = some (r1, r2) := H
  have A5 := Am A50
  clear A50
  simp only [Option.some.injEq, Prod.mk.injEq] at H
  obtain ⟨rfl, rfl⟩ := H
  go_enter Try.func18, Try.ntmps18
  go_wp2_with (first | ((refine Gc (f := 47) rfl ?_); refine goesL_ (some 8) rfl rfl Try.func47 (by kernel_rfl) rfl #[.slice A0 l0.length c0, .slice A1 l1.length c1] rfl (by first | rfl | (simp only [List.map_toArray, List.map_cons, List.map_nil]; first | done | rfl)) ?_; (with_reducible refine (spec_l5Keys.calls k _ _ l0 _ _ l1 true _ ?side1 ?side2 ?side3 ?side4 A3.out).mono ?_); (case side1 => repeat (first | exact HR0.out | (with_reducible refine Kd.C_alloc ?_ _) | (with_reducible refine Kd.C_drewN ?_ _) | (with_reducible refine Kd.C_drew ?_))); (case side2 => exact HC0.out); (case side3 => repeat (first | exact HR1.out | (with_reducible refine Kd.C_alloc ?_ _) | (with_reducible refine Kd.C_drewN ?_ _) | (with_reducible refine Kd.C_drew ?_))); (case side4 => exact HC1.out); rintro e w' ⟨rfl, ⟨nd, rfl⟩⟩; refine ⟨_, rfl, ?_⟩) | ((refine Gc (f := 65) rfl ?_); refine goesL_ (some 12) rfl rfl Try.func65 (by kernel_rfl) rfl #[.slice A0 l0.length c0, .slice A1 l1.length c1] rfl (by first | rfl | (simp only [List.map_toArray, List.map_cons, List.map_nil]; first | done | rfl)) ?_; (with_reducible refine (spec_l5Order.calls k _ _ l0 _ _ l1 t329 _ ?side1 ?side2 ?side3 ?side4 A5.out).mono ?_); (case side1 => repeat (first | exact HR0.out | (with_reducible refine Kd.C_alloc ?_ _) | (with_reducible refine Kd.C_drewN ?_ _) | (with_reducible refine Kd.C_drew ?_))); (case side2 => exact HC0.out); (case side3 => repeat (first | exact HR1.out | (with_reducible refine Kd.C_alloc ?_ _) | (with_reducible refine Kd.C_drewN ?_ _) | (with_reducible refine Kd.C_drew ?_))); (case side4 => exact HC1.out); rintro e w6 ⟨v330, rfl, ho0, hb⟩; refine ⟨_, rfl, ?_⟩; have n0_ := Am (Kd.R_lower ho0 (Bz (by repeat (first | exact HB.out | apply Ba | apply Bn | apply Bd)))); have n1_ := Am (Bt (by repeat (first | exact HB.out | apply Ba | apply Bn | apply Bd)) hb); clear HB; have HO331 := n0_; have HB := n1_; clear n0_ n1_; (try clear hb); (try clear hb2); (try clear hk); (try clear hi); (try clear ho0)))
  go_ret2
  exact ⟨_, by first | rfl | (simp [*, errW_none, errW_some] <;> rfl), by (with_reducible repeat (first | apply Ra | apply Rn | apply Rd)); exact HO331.out, by repeat (first | exact HB.out | apply Ba | apply Bn | apply Bd)⟩
 ·replace c4 := Bool.eq_false_iff.mpr c4
  subst c4
  have H1 : (some (([] : List Int), false)) = some (r1, r2) := by rw [if_neg (show ¬ (false = true) by decide)] at H; exact H
  clear H
  have H := H1
  clear H1
  simp only [Option.some.injEq, Prod.mk.injEq] at H
  obtain ⟨rfl, rfl⟩ := H
  go_enter Try.func18, Try.ntmps18
  go_wp2_with (first | ((refine Gc (f := 47) rfl ?_); refine goesL_ (some 8) rfl rfl Try.func47 (by kernel_rfl) rfl #[.slice A0 l0.length c0, .slice A1 l1.length c1] rfl (by first | rfl | (simp only [List.map_toArray, List.map_cons, List.map_nil]; first | done | rfl)) ?_; (with_reducible refine (spec_l5Keys.calls k _ _ l0 _ _ l1 false _ ?side1 ?side2 ?side3 ?side4 A3.out).mono ?_); (case side1 => repeat (first | exact HR0.out | (with_reducible refine Kd.C_alloc ?_ _) | (with_reducible refine Kd.C_drewN ?_ _) | (with_reducible refine Kd.C_drew ?_))); (case side2 => exact HC0.out); (case side3 => repeat (first | exact HR1.out | (with_reducible refine Kd.C_alloc ?_ _) | (with_reducible refine Kd.C_drewN ?_ _) | (with_reducible refine Kd.C_drew ?_))); (case side4 => exact HC1.out); rintro e w' ⟨rfl, ⟨nd, rfl⟩⟩; refine ⟨_, rfl, ?_⟩))
  go_ret2
  exact ⟨_, by first | rfl | (simp [*, errW_none, errW_some] <;> rfl), by first | exact Kd.R_nil _ _ _ _ _ | exact Kd.N_nil _ _ _ _ _ | exact Kd.V_nil _ _ _ _ _ | exact Kd.Q_nil _ _ _ _ _ | exact Kd.S_nil _ _ _ _ _, by repeat (first | exact HB.out | apply Ba | apply Bn | apply Bd)⟩
end Go.Proofs.Ytpboalgecejoeaa.QFnOrders
