-- Written by a program of this session (wip/mk.py) over the kit's print: Lean checks it.
import Derived.Test.YtpboalgecejoeaaQFnComponentsx0
import Derived.Test.YtpboalgecejoeaaQFnComponentsx1
import Derived.Test.YtpboalgecejoeaaQFnComponentsx3
import Derived.Test.YtpboalgecejoeaaQFnComponentsx4
import Derived.Test.YtpboalgecejoeaaQFnComponentsx6
import Derived.Test.YtpboalgecejoeaaQFnComponentsx7
namespace Go.Proofs.Ytpboalgecejoeaa.QFnComponents
open Go.Proofs.YtpboalgecejoeaaW.PrintWords.Kd renaming R_alloc → Ra, R_drewN → Rn, R_drew → Rd, S_alloc → Sa, S_drewN → Sn, S_drew → Sd
open Go.Proofs.YtpboalgecejoeaaW.PrintWords renaming below_alloc → Ba, pw_below_drewN → Bn, below_drew1 → Bd, below_size → Bz, below_step → Bt, gate_dst → Gd, gate_callee → Gc
open Go.Proofs.YtpboalgecejoeaaW.PrintWords.Aside0 renaming mk → Am
open Go.Proofs.YtpboalgecejoeaaW.PrintWords renaming Aside0 → Ad
open Go.RowKit Go.Proofs.YtpboalgecejoeaaW.PrintWords Go.Proofs.YtpboalgecejoeaaW.PrintLast Go.Proofs.YtpboalgecejoeaaW.PrintMore
attribute [local go_sem] max2_int min2_int max_two min_two max_three min_three max_four min_four   -- for this text's walks alone
set_option linter.unusedVariables false
set_option linter.unusedSimpArgs false
def spec_l5Components.fe (g left : List (List Int)) (k : Nat) (p : Int) (i : Nat) : Bool := !(i == k) && Mine.anyP (fun n : Int => Mine.anyP (fun x => x == n) (g.getD p.toNat [])) (left.getD i [])
def spec_l5Components.fr (g left : List (List Int)) (k : Nat) : Bool := !Mine.anyP (fun p : Int => Mine.anyP (spec_l5Components.fe g left k p) (List.range' 0 left.length)) (left.getD k [])
def spec_l5Components.s (g : List (List Int)) : Nat → List (List Int) → Option (List (List Int))
 | 0, _ => none
 | f + 1, left => if left = [] then some [] else ((List.range left.length).find? (spec_l5Components.fr g left)).bind fun k => (spec_l5Components.s g f (left.eraseIdx k)).map (left.getD k [] :: ·)
def spec_l5Components.ok (n : Nat) (left : List (List Int)) : Bool := decide (left.length ≤ 1000) && left.all fun a => a.all fun p => decide (0 ≤ p ∧ p < (n : Int))
def spec_l5Components.f (k : Nat) (l0 : List (List Int)) : Option (List (List Int)) := (spec_l5Groups.f k l0).bind fun left => if spec_l5Components.ok l0.length left = true then spec_l5Components.s l0 k left else none
theorem spec_l5Components.mono_s (g : List (List Int)) : ∀ k left, LeO (spec_l5Components.s g k left) (spec_l5Components.s g (k + 1) left)
 | 0, _ => LeO.none _
 | k + 1, left => by
  unfold spec_l5Components.s
  exact LeO.ite (LeO.refl _) (LeO.bind (LeO.refl _) (fun j => LeO.map _ (spec_l5Components.mono_s g k _)))
theorem spec_l5Components.mono : ∀ a0 k, LeO (spec_l5Components.f k a0) (spec_l5Components.f (k + 1) a0) := by
 intro a0 k
 unfold spec_l5Components.f
 exact LeO.bind (spec_l5Groups.mono _ _) (fun _ => LeO.ite (spec_l5Components.mono_s _ _ _) (LeO.none _))
theorem spec_l5Components.okE {n : Nat} {left : List (List Int)} (h : spec_l5Components.ok n left = true) : left.length ≤ 1000 ∧ ∀ a ∈ left, ∀ p ∈ a, 0 ≤ p ∧ p < (n : Int) := by
 unfold spec_l5Components.ok at h
 simp only [Bool.and_eq_true, decide_eq_true_eq, List.all_eq_true] at h
 exact h
set_option maxHeartbeats 8000000 in
set_option maxRecDepth 100000 in
theorem spec_l5Components.calls (k : Nat) (A0 : Option Addr) (c0 : Nat) (l0 : List (List Int)) (r : List (List Int)) (w : World) (hr0 : Kd.C (Kd.slice 3 (Kd.int .i64)) w A0 l0.length l0) (hc0 : l0.length ≤ c0) (h : spec_l5Components.f k l0 = some r) :
  Calls Try.prog 75 #[.slice A0 l0.length c0] w fun e w' => ∃ v0_ : Value, e = .returned (v0_) ∧ Kd.S (Kd.slice 3 (Kd.int .i64)) 23 w' w.heap.size (fun _ => True) v0_ r ∧ Below w.heap.size w w' := by
 have hmax0 : l0.length ≤ 9223372036854775807 := hr0.2.1
 have HR0 := Am hr0
 have HC0 := Am hc0
 clear hr0 hc0
 unfold spec_l5Components.f at h
 cases hg : spec_l5Groups.f k l0 with
 | none => rw [hg] at h; cases h
 | some L =>
 rw [hg, Option.bind_some] at h
 by_cases hok : spec_l5Components.ok l0.length L = true
 case neg => rw [if_neg hok] at h; cases h
 rw [if_pos hok] at h
 have HG := Am hg
 have HK := Am (spec_l5Components.okE hok)
 have HS := Am h
 clear hg hok h
 go_enter Try.func75, Try.ntmps75
 go_wp2_with fail
 refine (spec_l5Groups.calls k A0 c0 l0 L w HR0.out HC0.out HG.out).mono ?_
 rintro e w1 ⟨vL, rfl, hS, hb⟩
 obtain ⟨ps, rfl, hR, hRows⟩ := Kd.S_rows hS
 have HL := Am hR
 have HW := Am hRows
 have HB := Am hb
 clear hS hR hRows hb HG
 go_wp2
 go_loopg [3, 4] k (fun f v3 v4 wr => ∃ (pl po : List (Hd × List Int)) (rs : List (List Int)), Ad (spec_l5Components.s l0 f (pl.map (·.2)) = some rs) ∧ Ad (po.map (·.2) ++ rs = r) ∧ Ad (po.length + pl.length ≤ 1000) ∧ Ad (∀ a ∈ pl.map (·.2), ∀ p ∈ a, 0 ≤ p ∧ p < (l0.length : Int)) ∧ Ad (Kd.Rows (Kd.int .i64) 3 wr w.heap.size (po ++ pl)) ∧ Ad (Kd.hd.R 23 wr w.heap.size (fun k_ => some k_ ≠ v4.ownBlock) v3 (pl.map (·.1))) ∧ Ad (Kd.hd.R 23 wr w.heap.size (fun k_ => some k_ ≠ v3.ownBlock) v4 (po.map (·.1))) ∧ Ad (Below w.heap.size w wr))
 case atStart => exact ⟨ps, [], r, HS, ⟨rfl⟩, ⟨by have := HK.out.1; simpa using this⟩, ⟨HK.out.2⟩, HW, ⟨Kd.R_mono HL.out (fun _ _ => by simp [Value.ownBlock])⟩, ⟨Kd.R_nil _ _ _ _ _⟩, HB⟩
 case round =>
  clear HS HK HL HW HB
  obtain ⟨pl, po, rs, HS, HE, HN, HP, HW, HL, HO, HB⟩ := hrel
  cases gk with
  | zero => exact absurd HS.out (by simp [spec_l5Components.s])
  | succ f1 =>
  obtain ⟨A3, c3, e3⟩ := Kd.R_slice HL.out
  obtain ⟨A4, c4, e4⟩ := Kd.R_slice HO.out
  rw [List.length_map] at e3 e4
  subst e3
  subst e4
  by_cases hne : pl = []
  ·subst hne
   have he : Ad (po.map (·.2) = r) := ⟨by
    have h1 := HS.out
    simp [spec_l5Components.s] at h1
    have h2 := HE.out
    rw [← h2, h1, List.append_nil]⟩
   go_wp2
   go_ret
   refine ⟨_, rfl, ?_, HB.out⟩
   rw [← he.out]
   refine Kd.rows_S (Kd.R_mono HO.out (fun _ _ => trivial)) ?_ rfl (by decide)
   have := HW.out
   rwa [List.append_nil] at this
  ·have hpos : 0 < pl.length := List.length_pos_iff.2 hne
   have h1 := HS.out
   rw [spec_l5Components.s, if_neg (by simpa using hne)] at h1
   obtain ⟨k0, hk0, h1⟩ := Option.bind_eq_some_iff.1 h1
   rw [List.length_map, List.find?_range_eq_some] at hk0
   obtain ⟨hf0, hlt0, hbef⟩ := hk0
   have hlt0 : k0 < pl.length := by simpa using hlt0
   obtain ⟨rs1, hs1, hrs⟩ := Option.map_eq_some_iff.1 h1
   have HS1 := Am hs1
   have HRS := Am hrs
   have HF0 := Am hf0
   have HBF := Am hbef
   have hposz : decide (0 < (pl.length : Int)) = true := decide_eq_true (by omega)
   clear h1 hs1 hrs hf0 hbef hne HS
   generalize hEL : (List.map (fun x => x.2) pl) = EL at HS1 HRS HF0 HBF HP
   have HEL := Am hEL
   clear hEL
   have hlen : EL.length = pl.length := by rw [← HEL.out, List.length_map]
   go_wp2
   go_loopg [3, 4, 22] pl.length (fun gg v3 v4 v22 wq => ∃ kk : Nat, kk ≤ k0 ∧ pl.length - kk ≤ gg ∧ v3 = .slice A3 pl.length c3 ∧ v4 = .slice A4 po.length c4 ∧ v22 = .int .i64 kk ∧ Ad (Below wr.heap.size wr wq))
   case atStart => exact ⟨0, Nat.zero_le _, by omega, rfl, rfl, by first | rfl | simp, ⟨Below.refl _ _⟩⟩
   case round =>
    obtain ⟨kk, hkk, hgg, rfl, rfl, rfl, HQ⟩ := hrel
    have HW1 := Am (HW.out.below HQ.out)
    have HL1 := Am (Kd.R_below HL.out HQ.out)
    have HO1 := Am (Kd.R_below HO.out HQ.out)
    have HB1 := Am (below_then HB.out HB.out.size HQ.out)
    clear HW HL HO HB
    have hkl : kk < pl.length := by omega
    have hpn : pl.length ≤ 1000 := by have := HN.out; omega
    have hkz : (kk : Int) < (pl.length : Int) := by omega
    have hk0z : (0 : Int) ≤ (kk : Int) := by omega
    obtain ⟨ad3, B, cB, x, rfl, hx, hp, hxe, hxc, hC⟩ := Kd.pair_at HL1.out (fun p hp => HW1.out.row p (List.mem_append_right _ hp)) kk hkl
    rw [HEL.out] at hxe
    have HM : Ad ((((B, x.length, cB), x) : Hd × List Int) ∈ pl) := ⟨List.mem_iff_getElem?.2 ⟨kk, hp⟩⟩
    have HXI : Ad (pl[kk]? = some ((B, x.length, cB), x)) := ⟨hp⟩
    have hxmem : x ∈ EL := by
     rw [← hxe]
     exact Mine.getD_mem EL [] kk (by omega)
    have HXP := Am (HP.out x hxmem)
    have HXE := Am hxe
    have hxm : x.length ≤ 9223372036854775807 := hC.2.1
    have hfr : Ad (spec_l5Components.fr l0 EL kk = !Mine.anyP (fun p : Int => Mine.anyP (spec_l5Components.fe l0 EL kk p) (List.range' 0 EL.length)) x) := ⟨by unfold spec_l5Components.fr; rw [hxe]⟩
    clear hC hxmem hxe hp
    have HXC := Am hxc
    clear hxc
    go_wp2
    go_loopg [7, 29] x.length (fun gg v7 v29 wy => ∃ (b : Bool) (j : Nat), j ≤ x.length ∧ x.length - j ≤ gg ∧ v7 = .bool b ∧ v29 = .int .i64 j ∧ Ad ((b && !Mine.anyP (fun p : Int => Mine.anyP (spec_l5Components.fe l0 EL kk p) (List.range' 0 EL.length)) (x.drop j)) = spec_l5Components.fr l0 EL kk) ∧ Ad (Below wr.heap.size wr wy))
    case atStart => exact ⟨true, 0, Nat.zero_le _, by omega, rfl, by first | rfl | simp, ⟨by rw [hfr.out]; simp⟩, ⟨Below.refl _ _⟩⟩
    case round =>
     clear hx
     obtain ⟨b, j, hj, hgg3, rfl, rfl, HF, HQ3⟩ := hrel
     by_cases hjlt : j < x.length
     ·have hjz : (j : Int) < (x.length : Int) := by omega
      obtain ⟨adx, rfl, hxj⟩ := Kd.at_int (Kd.R_reads' (show Kd.R (Kd.int .i64) 3 wr w.heap.size (fun _ => True) (.slice B x.length cB) x from Kd.R_below (HW1.out.row _ (List.mem_append_right _ HM.out)) HQ3.out)).2.2 (j : Int) (by omega) hjz
      rw [Int.toNat_natCast, rd, Int.toNat_natCast] at hxj
      have hmem : x.getD j 0 ∈ x := Mine.getD_mem _ _ _ hjlt
      have HDR := Am (show x.drop j = x.getD j 0 :: x.drop (j + 1) from Mine.drop_at x 0 j hjlt)
      generalize x.getD j 0 = y at hxj hmem HDR
      obtain ⟨hy0, hy1⟩ := HXP.out y hmem
      clear hmem
      obtain ⟨T3, hT3⟩ : ∃ T : Bool, T = (b && !Mine.anyP (spec_l5Components.fe l0 EL kk y) (List.range' 0 EL.length)) := ⟨_, rfl⟩
      have HT3 := Am hT3
      have HF3 : Ad ((T3 && !Mine.anyP (fun p : Int => Mine.anyP (spec_l5Components.fe l0 EL kk p) (List.range' 0 EL.length)) (x.drop (j + 1))) = spec_l5Components.fr l0 EL kk) := ⟨by rw [← HF.out, HDR.out, Mine.anyP_cons, hT3]; cases b <;> cases Mine.anyP (spec_l5Components.fe l0 EL kk y) (List.range' 0 EL.length) <;> rfl⟩
      clear hT3 HF HDR
      go_wp2
      go_loopg [7, 35] pl.length (fun gg v7 v35 wy => ∃ (b : Bool) (i : Nat), i ≤ pl.length ∧ pl.length - i ≤ gg ∧ v7 = .bool b ∧ v35 = .int .i64 i ∧ Ad ((b && !Mine.anyP (spec_l5Components.fe l0 EL kk y) (List.range' i (pl.length - i))) = T3) ∧ Ad (Below wr.heap.size wr wy))
      case atStart => exact ⟨b, 0, Nat.zero_le _, by omega, rfl, by first | rfl | simp, ⟨by rw [HT3.out, hlen, Nat.sub_zero]⟩, ⟨Below.refl _ _⟩⟩
      case round =>
       clear hxj HT3
       clear b
       obtain ⟨b, i, hi, hgg4, rfl, rfl, HF, HQ4⟩ := hrel
       have HQ4' := Am (below_then HQ3.out HQ3.out.size HQ4.out)
       by_cases hilt : i < pl.length
       ·have hiz : (i : Int) < (pl.length : Int) := by omega
        have hi0z : (0 : Int) ≤ (i : Int) := by omega
        obtain ⟨ad3', B2, cB2, z, e3', hz, hpz, hze, hzc, hCz⟩ := Kd.pair_at (Kd.R_below HL1.out HQ4'.out) (fun p hp => (HW1.out.below HQ4'.out).row p (List.mem_append_right _ hp)) i hilt
        injection e3' with e3'
        subst e3'
        rw [HEL.out] at hze
        have HMz : Ad ((((B2, z.length, cB2), z) : Hd × List Int) ∈ pl) := ⟨List.mem_iff_getElem?.2 ⟨i, hpz⟩⟩
        have hzm : z.length ≤ 9223372036854775807 := hCz.2.1
        have hfe : Ad (spec_l5Components.fe l0 EL kk y i = (!(i == kk) && Mine.anyP (fun n : Int => Mine.anyP (fun x => x == n) (l0.getD y.toNat [])) z)) := ⟨by unfold spec_l5Components.fe; rw [hze]⟩
        obtain ⟨T4, hT4⟩ : ∃ T : Bool, T = (b && !(!(i == kk) && Mine.anyP (fun n : Int => Mine.anyP (fun x => x == n) (l0.getD y.toNat [])) z)) := ⟨_, rfl⟩
        have HT4 := Am hT4
        have HF4 : Ad ((T4 && !Mine.anyP (spec_l5Components.fe l0 EL kk y) (List.range' (i + 1) (pl.length - (i + 1)))) = T3) := ⟨by
         rw [← HF.out, show pl.length - i = (pl.length - (i + 1)) + 1 by omega, List.range'_succ, Mine.anyP_cons, hfe.out, hT4]
         cases b <;> cases (!(i == kk) && Mine.anyP (fun n : Int => Mine.anyP (fun x => x == n) (l0.getD y.toNat [])) z) <;> rfl⟩
        clear hT4 HF hfe hze hpz hzc hCz
        go_wp2
        go_loopg [7, 42] z.length (fun gg v7 v42 wy => ∃ (b : Bool) (j : Nat), j ≤ z.length ∧ z.length - j ≤ gg ∧ v7 = .bool b ∧ v42 = .int .i64 j ∧ Ad ((b && !(!(i == kk) && Mine.anyP (fun n : Int => Mine.anyP (fun x => x == n) (l0.getD y.toNat [])) (z.drop j))) = T4) ∧ Ad (Below wr.heap.size wr wy))
        case atStart => exact ⟨b, 0, Nat.zero_le _, by omega, rfl, by first | rfl | simp, ⟨by rw [HT4.out]; rfl⟩, ⟨Below.refl _ _⟩⟩
        case round =>
         clear hz HT4
         clear b
         obtain ⟨b, j5, hj5, hgg5, rfl, rfl, HF, HQ5⟩ := hrel
         have HQ5' := Am (below_then HQ4'.out HQ4'.out.size HQ5.out)
         by_cases hj5lt : j5 < z.length
         ·have hj5z : (j5 : Int) < (z.length : Int) := by omega
          obtain ⟨adz, rfl, hzj⟩ := Kd.at_int (Kd.R_reads' (show Kd.R (Kd.int .i64) 3 wr w.heap.size (fun _ => True) (.slice B2 z.length cB2) z from Kd.R_below (HW1.out.row _ (List.mem_append_right _ HMz.out)) HQ5'.out)).2.2 (j5 : Int) (by omega) hj5z
          rw [Int.toNat_natCast, rd, Int.toNat_natCast] at hzj
          have HDR := Am (show z.drop j5 = z.getD j5 0 :: z.drop (j5 + 1) from Mine.drop_at z 0 j5 hj5lt)
          generalize z.getD j5 0 = n5 at hzj HDR
          have HF2 : Ad (∀ h : Bool, h = Mine.anyP (fun x => x == n5) (l0.getD y.toNat []) → ((b && !(!(i == kk) && h)) && !(!(i == kk) && Mine.anyP (fun n : Int => Mine.anyP (fun x => x == n) (l0.getD y.toNat [])) (z.drop (j5 + 1)))) = T4) := ⟨fun h hh => by
           rw [← HF.out, HDR.out, Mine.anyP_cons, hh]
           cases b <;> cases (i == kk) <;> cases Mine.anyP (fun x => x == n5) (l0.getD y.toNat []) <;> rfl⟩
          clear HF HDR
          cases b with
          | false =>
           go_wp2
           go_roundg (z.length - (j5 + 1))
           case measure => omega
           case rel => exact ⟨false, j5 + 1, by omega, by omega, rfl, by go_num, ⟨by have := HF2.out _ rfl; simpa using this⟩, HQ5⟩
          | true =>
           by_cases hik : i = kk
           ·have hikb : ((i : Int) == (kk : Int)) = true := by rw [hik]; exact beq_self_eq_true _
            go_wp2
            go_roundg (z.length - (j5 + 1))
            case measure => omega
            case rel => exact ⟨true, j5 + 1, by omega, by omega, rfl, by go_num, ⟨by have := HF2.out _ rfl; rw [hik, beq_self_eq_true] at this ⊢; simpa using this⟩, HQ5⟩
           ·have hikb : ((i : Int) == (kk : Int)) = false := beq_false_of_ne (by omega)
            have hikn : (i == kk) = false := beq_false_of_ne hik
            obtain ⟨adg, Ag, cg, rfl, hg, hgc, hgC⟩ := at_L2 (Kd.C_below HR0.out (below_then HB1.out HB1.out.size HQ5'.out)) y hy0 hy1
            have HRG := Am hgC
            have HCG := Am hgc
            have hge : rd_L2 l0 y = l0.getD y.toNat [] := rfl
            obtain ⟨K, hK⟩ := spec_l5Groups.has (rd_L2 l0 y) n5 hgC.2.1
            have HK := Am hK
            have HGE := Am hge
            generalize rd_L2 l0 y = gy at hg hgc HRG HCG HK HGE
            have HHB : Ad (Mine.anyP (fun x => x == n5) gy = Mine.anyP (fun x => x == n5) (l0.getD y.toNat [])) := ⟨by rw [HGE.out]⟩
            clear hgC hgc hge hK HGE
            generalize Mine.anyP (fun x => x == n5) gy = hb5 at HK HHB
            go_wp2_with fail
            refine (spec_l1Has.calls K Ag cg gy n5 hb5 wr HRG.out HCG.out HK.out).mono ?_
            rintro e w2 ⟨rfl, hd⟩
            have hbw := hd.below
            clear hd hg hzj
            have HQ6 := Am (below_then HQ5.out HQ5.out.size hbw)
            clear hbw
            cases hb5 with
            | true =>
             go_wp2
             go_roundg (z.length - (j5 + 1))
             case measure => omega
             case rel => exact ⟨false, j5 + 1, by omega, by omega, rfl, by go_num, ⟨by have := HF2.out _ HHB.out; simpa [hikn] using this⟩, HQ6⟩
            | false =>
             go_wp2
             go_roundg (z.length - (j5 + 1))
             case measure => omega
             case rel => exact ⟨true, j5 + 1, by omega, by omega, rfl, by go_num, ⟨by have := HF2.out _ HHB.out; simpa [hikn] using this⟩, HQ6⟩
         ·obtain rfl : j5 = z.length := by omega
          have hj5z : ¬ (z.length : Int) < (z.length : Int) := by omega
          have hbe : b = T4 := by
           have h1 := HF.out
           rw [List.drop_eq_nil_of_le (Nat.le_refl _)] at h1
           simpa [Mine.anyP] using h1
          have HF5 := Am (hbe ▸ HF4.out)
          clear hbe HF
          go_wp2
          go_roundg (pl.length - (i + 1))
          case measure => omega
          case rel => exact ⟨b, i + 1, by omega, by omega, rfl, by go_num, HF5, ⟨below_then HQ4.out HQ4.out.size HQ5.out⟩⟩
       ·obtain rfl : i = pl.length := by omega
        have hiz : ¬ (pl.length : Int) < (pl.length : Int) := by omega
        have hbe : b = T3 := by
         have h1 := HF.out
         rw [Nat.sub_self] at h1
         simpa [Mine.anyP] using h1
        have HF5 := Am (hbe ▸ HF3.out)
        clear hbe HF
        go_wp2
        go_roundg (x.length - (j + 1))
        case measure => omega
        case rel => exact ⟨b, j + 1, by omega, by omega, rfl, by go_num, HF5, ⟨below_then HQ3.out HQ3.out.size HQ4.out⟩⟩
     ·obtain rfl : j = x.length := by omega
      have hjz : ¬ (x.length : Int) < (x.length : Int) := by omega
      have hbe : b = spec_l5Components.fr l0 EL kk := by
       have h1 := HF.out
       rw [List.drop_eq_nil_of_le (Nat.le_refl _)] at h1
       simpa [Mine.anyP] using h1
      clear HF
      have HQ' := Am (below_then HQ.out HQ.out.size HQ3.out)
      cases b with
      | false =>
       have hne : kk ≠ k0 := fun h => by rw [h, HF0.out] at hbe; cases hbe
       clear hbe
       go_wp2
       go_roundg (pl.length - (kk + 1))
       case measure => omega
       case rel => exact ⟨kk + 1, by omega, by omega, rfl, rfl, by go_num, HQ'⟩
      | true =>
       have hk : kk = k0 := by
        rcases Nat.lt_or_ge kk k0 with h | h
        ·have := HBF.out kk h; rw [← hbe] at this; cases this
        ·omega
       subst hk
       clear hbe
       have HW2 := Am (HW1.out.below HQ3.out)
       have HL2 := Am (Kd.R_below HL1.out HQ3.out)
       have HO2 := Am (Kd.R_below HO1.out HQ3.out)
       have HB2 := Am (below_then HB1.out HB1.out.size HQ3.out)
       have HPERM : Ad ((po ++ pl).Perm ((po ++ [((B, x.length, cB), x)]) ++ pl.eraseIdx kk)) := ⟨by
        rw [List.append_assoc]
        refine List.Perm.append_left po ?_
        rw [List.eraseIdx_eq_take_drop_succ, List.singleton_append]
        have h1 : pl = pl.take kk ++ ((B, x.length, cB), x) :: pl.drop (kk + 1) := by
         obtain ⟨hl_, he_⟩ := List.getElem?_eq_some_iff.1 HXI.out
         rw [← he_, ← List.drop_eq_getElem_cons hl_, List.take_append_drop]
        conv => lhs; rw [h1]
        exact List.perm_middle⟩
       clear HW1 HL1 HO1 HB1 HQ HQ3 HQ' HM HF0 HBF HXP hfr
       obtain ⟨m1, hm1⟩ : ∃ m : Nat, m = kk + 1 := ⟨_, rfl⟩
       have hwk : IntKind.i64.wrap ((kk : Int) + 1) = (m1 : Int) := by rw [IntWalk.i64_in _ (by omega)]; omega
       obtain ⟨i0_, hi0_, _, hsz_, _⟩ := info_parts info23
       have hcut1 := cut_to (P := Try.prog) 22 23 .i64 Try.underlying22 hi0_ (some ad3) pl.length c3 (kk : Int) hk0z (by omega) (by have := (Kd.R_reads' HL2.out).2.1; omega)
       simp only [Int.toNat_natCast] at hcut1
       obtain ⟨A1, hcut2, hA1⟩ := print_cut_of (P := Try.prog) hdV ((none, 0, 0) : Hd) 22 23 .i64 Try.underlying22 hi0_ hsz_ (some ad3) pl.length c3 m1 (by omega)
       have HA1 := Am hA1
       have hcap : Ad (pl.length ≤ c3) := ⟨(Kd.R_reads' HL2.out).2.1⟩
       have HM1 := Am hm1
       clear hA1 hi0_ hsz_ hm1
       have HRT : Ad (∀ W : World, Kd.hd.R 23 W w.heap.size (fun _ => True) (.slice (some ad3) pl.length c3) (pl.map (·.1)) → Kd.C Kd.hd W (some ad3) kk ((pl.map (·.1)).take kk)) := ⟨fun W h => by
        have h1 := (Kd.R_reads' (Kd.R_take (m := kk) h (by rw [List.length_map]; omega))).2.2
        rwa [List.length_take, List.length_map, Nat.min_eq_left (by omega)] at h1⟩
       have HRD : Ad (∀ W : World, Kd.hd.R 23 W w.heap.size (fun _ => True) (.slice (some ad3) pl.length c3) (pl.map (·.1)) → Kd.C Kd.hd W A1 (pl.length - m1) ((pl.map (·.1)).drop m1)) := ⟨fun W h => by
        have h1 := Kd.reads_of_C (d := ((none, 0, 0) : Hd)) (Kd.R_reads' h).2.2
        rw [List.length_map] at h1
        exact Kd.C_of_reads (HA1.out W _ hcap.out h1)⟩
       clear HA1
       go_wp2_with (first | ((with_reducible refine gate_builtin (b := .append) (xs := #[.tmp 65, .tmp 67]) rfl ?_); at_builtin; refine Kd.R_append Kd.hd (w0 := w) w.heap.size rfl (.tmp 65) (.tmp 67) 22 23 (.slice none 0 0) 24 rfl Try.underlying22 info23 rfl (by decide) (by omega) (.slice A4 po.length c4) (po.map (·.1)) (B, x.length, cB) [.slice (B) (x.length) (cB)] (fun k_ => some k_ ≠ (Value.slice (some ad3) pl.length c3).ownBlock) (fun _ => False) rfl rfl ?aP (fun _ hk => hk.elim) ?aF ?aO ?aB ?aS ?aL ?_; (case aP => exact rfl); (case aB => exact HB2.out); (case aF => exact (fun k_ hk => Kd.fresh' (Kd.R_lt HL2.out) k_ hk)); (case aO => exact HO2.out); (case aS => exact (Bz HB2.out)); (case aL => have := HN.out; rw [List.length_map]; omega); intro v4 w3 ho hb hg hat; have HW3 := Am (HW2.out.over HO2.out (by decide) hg); have HL3 := Am (Kd.R_after (ok := fun _ => True) (Kd.R_mono HL2.out (fun _ hk => ⟨trivial, hk⟩)) hg hat); have HO3 := Am ho; have HB3 := Am hb; clear HW2 HL2 HO2 HB2; clear ho hb hg hat) | ((refine Gd (N := 69) rfl ?_); refine Kd.R_lit Kd.hd _ 23 ?hg (N := 69) ?hd (xs := ([] : List Hd)) (inner := []) (ok := fun _ => True) (okp := fun _ => True) ?hr ?hp (fun _ hk => hk) trivial (Below.refl _ _) (Nat.le_refl _) (by simp) ?_; (case hd | hg => rfl); (case hr => first | (go_simp; done) | (go_simp; rfl)); (case hp => exact (Reps.none _ _)); intro v69 w4 ho hb hg_ hnew_; have HZ4 := Am (Kd.R_lower (Kd.R_newR (Kd.R_newR ho HL3.out) HO3.out) HB3.out.size); have HL4 := Am (Kd.R_elder HL3.out ho hb); have HO4 := Am (Kd.R_elder HO3.out ho hb); have HW4 := Am (HW3.out.below hb); have HB4 := Am (below_then HB3.out HB3.out.size hb); clear ho hb hg_ hnew_ HL3 HO3 HW3 HB3) | ((with_reducible refine gate_builtin (b := .append) (xs := #[.tmp 69, .tmp 72]) rfl ?_); at_builtin; refine Kd.R_append_rows Kd.hd (w0 := w) w.heap.size rfl (.tmp 69) (.tmp 72) 22 23 (.slice none 0 0) 24 rfl Try.underlying22 info23 rfl (by decide) (by omega) v69 ([] : List Hd) ((pl.map (·.1)).take kk) (some ad3) kk c3 (fun k_ => (True ∧ some k_ ≠ (Value.slice (some ad3) pl.length c3).ownBlock) ∧ some k_ ≠ (v4 : Value).ownBlock) (fun _ => False) rfl rfl ?aO ?aR (fun _ _ h => h) (fun _ h => h.elim) ?aF ?aB ?aS ?aL ?_; (case aO => exact HZ4.out); (case aR => exact (HRT.out _ (Kd.R_mono HL4.out (fun _ _ => trivial)))); (case aF => exact (fun k_ hk => ⟨⟨trivial, Kd.fresh' (Kd.R_lt HL4.out) k_ hk⟩, Kd.fresh' (Kd.R_lt HO4.out) k_ hk⟩)); (case aB => exact HB4.out); (case aS => exact HB4.out.size); (case aL => have := HN.out; (try simp only [List.length_nil]); omega); intro v73 w5 ho hb hg hat; have HZ5 := Am ho; have HL5 := Am (Kd.R_after HL4.out hg hat); have HO5 := Am (Kd.R_after HO4.out hg hat); have HW5 := Am (HW4.out.over HZ4.out (by decide) hg); have HB5 := Am hb; clear ho hb hg hat HZ4 HL4 HO4 HW4 HB4) | ((with_reducible refine gate_builtin (b := .append) (xs := #[.tmp 74, .tmp 78]) rfl ?_); at_builtin; refine Kd.R_append_rows Kd.hd (w0 := w) w.heap.size rfl (.tmp 74) (.tmp 78) 22 23 (.slice none 0 0) 24 rfl Try.underlying22 info23 rfl (by decide) (by omega) v73 ([] ++ (pl.map (·.1)).take kk) ((pl.map (·.1)).drop m1) A1 (pl.length - m1) (c3 - m1) (fun k_ => (True ∧ some k_ ≠ (Value.slice (some ad3) pl.length c3).ownBlock) ∧ some k_ ≠ (v4 : Value).ownBlock) (fun _ => False) rfl rfl ?aO ?aR (fun _ _ h => h) (fun _ h => h.elim) ?aF ?aB ?aS ?aL ?_; (case aO => exact HZ5.out); (case aR => exact (HRD.out _ (Kd.R_mono HL5.out (fun _ _ => trivial)))); (case aF => exact (fun k_ hk => ⟨⟨trivial, Kd.fresh' (Kd.R_lt HL5.out) k_ hk⟩, Kd.fresh' (Kd.R_lt HO5.out) k_ hk⟩)); (case aB => exact HB5.out); (case aS => exact HB5.out.size); (case aL => have := HN.out; have := HM1.out; simp only [List.nil_append, List.length_take, List.length_map]; omega); intro v3 w6 ho hb hg hat; have HZ6 := Am ho; have HO6 := Am (Kd.R_after HO5.out hg hat); have HW6 := Am (HW5.out.over HZ5.out (by decide) hg); have HB6 := Am hb; clear ho hb hg hat HZ5 HL5 HO5 HW5 HB5))
       have HX : Ad ([] ++ (pl.map (·.1)).take kk ++ (pl.map (·.1)).drop m1 = (pl.eraseIdx kk).map (·.1)) := ⟨by rw [HM1.out, List.eraseIdx_eq_take_drop_succ, List.nil_append, List.map_append, List.map_take, List.map_drop]⟩
       have HY : Ad ((pl.eraseIdx kk).map (·.2) = EL.eraseIdx kk) := ⟨by rw [List.eraseIdx_eq_take_drop_succ, List.eraseIdx_eq_take_drop_succ, List.map_append, List.map_take, List.map_drop, HEL.out]⟩
       go_roundg f1
       case measure => omega
       case rel => exact ⟨pl.eraseIdx kk, po ++ [((B, x.length, cB), x)], rs1, ⟨by rw [HY.out]; exact HS1.out⟩, ⟨by rw [← HE.out, ← HRS.out, HXE.out]; simp⟩, ⟨by have := HN.out; rw [List.length_append, List.length_eraseIdx_of_lt hkl]; simp; omega⟩, ⟨fun a ha => HP.out a (by rw [HY.out] at ha; exact (List.eraseIdx_sublist _ _).subset ha)⟩, ⟨HW6.out.perm HPERM.out⟩, ⟨by rw [← HX.out]; exact Kd.R_mono HZ6.out (fun _ hk => hk.2)⟩, ⟨by rw [List.map_append]; exact Kd.R_mono HO6.out (fun _ hk => hk.2)⟩, HB6⟩
def spec_ComponentsOf.f (k : Nat) (l0 : List (List Int)) : Option ((List (List Int)) × Bool) := (spec_GoodGraph.f k l0).bind fun t240 => (if t240 = true then ((spec_l5Components.f k l0).bind fun t241 => (some (t241, true))) else (some (([] : List (List Int)), false)))
theorem spec_ComponentsOf.mono : ∀ a0 k, LeO (spec_ComponentsOf.f k a0) (spec_ComponentsOf.f (k + 1) a0) := by
 intro a0 k
 unfold spec_ComponentsOf.f
 repeat' first
   | (with_reducible exact spec_GoodGraph.mono _ _)
   | (with_reducible exact spec_l5Components.mono _ _)
   | (with_reducible exact LeO.refl _)
   | (with_reducible exact LeO.none _)
   | (with_reducible refine LeO.ite ?_ ?_)
   | (with_reducible refine LeO.bind ?_ (fun _ => ?_))
   | exact spec_GoodGraph.mono _ _
   | exact spec_l5Components.mono _ _
   | exact LeO.none _
   | refine LeO.ite ?_ ?_
   | refine LeO.bind ?_ (fun _ => ?_)
set_option maxHeartbeats 8000000 in
set_option maxRecDepth 100000 in
theorem spec_ComponentsOf.calls (k : Nat) (A0 : Option Addr) (c0 : Nat) (l0 : List (List Int)) (r1 : List (List Int)) (r2 : Bool) (w : World) (hr0 : Kd.C (Kd.slice 3 (Kd.int .i64)) w A0 l0.length l0) (hc0 : l0.length ≤ c0) (h : spec_ComponentsOf.f k l0 = some (r1, r2)) :
  Calls Try.prog 26 #[.slice A0 l0.length c0] w fun e w' => ∃ v0_ : Value, e = .returned (.tuple #[v0_, .bool r2]) ∧ Kd.S (Kd.slice 3 (Kd.int .i64)) 23 w' w.heap.size (fun _ => True) v0_ r1 ∧ Below w.heap.size w w' := by
 have HR0 := Am hr0
 have HC0 := Am hc0
 clear hr0 hc0
 have HB := Am (Below.refl w.heap.size w)
 have H : ((spec_GoodGraph.f k l0).bind fun t240 => (if t240 = true then ((spec_l5Components.f k l0).bind fun t241 => (some (t241, true))) else (some (([] : List (List Int)), false)))) = some (r1, r2) := h
 clear h
 replace H := Option.bind_eq_some_iff.mp H
 obtain ⟨t240, A20, H⟩ := H
 replace H : (if t240 = true then ((spec_l5Components.f k l0).bind fun t241 => (some (t241, true))) else (some (([] : List (List Int)), false))) = some (r1, r2) := H
 have A2 := Am A20
 clear A20
 by_cases c3 : t240 = true
 ·subst c3
  have H1 : ((spec_l5Components.f k l0).bind fun t241 => (some (t241, true))) = some (r1, r2) := by rw [if_pos rfl] at H; exact H
  clear H
  have H := H1
  clear H1
  replace H := Option.bind_eq_some_iff.mp H
  obtain ⟨t241, A40, H⟩ := H
  replace H : (some (t241, true)) = some (r1, r2) := H
  have A4 := Am A40
  clear A40
  simp only [Option.some.injEq, Prod.mk.injEq] at H
  obtain ⟨rfl, rfl⟩ := H
  go_enter Try.func26, Try.ntmps26
  go_wp2_with (first | ((refine Gc (f := 29) rfl ?_); refine goesL_ (some 5) rfl rfl Try.func29 (by kernel_rfl) rfl #[.slice A0 l0.length c0] rfl (by first | rfl | (simp only [List.map_toArray, List.map_cons, List.map_nil]; first | done | rfl)) ?_; (with_reducible refine (spec_GoodGraph.calls k _ _ l0 true _ ?side1 ?side2 A2.out).mono ?_); (case side1 => repeat (first | exact HR0.out | (with_reducible refine Kd.C_alloc ?_ _) | (with_reducible refine Kd.C_drewN ?_ _) | (with_reducible refine Kd.C_drew ?_))); (case side2 => exact HC0.out); rintro e w' ⟨rfl, ⟨nd, rfl⟩⟩; refine ⟨_, rfl, ?_⟩) | ((refine Gc (f := 75) rfl ?_); refine goesL_ (some 8) rfl rfl Try.func75 (by kernel_rfl) rfl #[.slice A0 l0.length c0] rfl (by first | rfl | (simp only [List.map_toArray, List.map_cons, List.map_nil]; first | done | rfl)) ?_; (with_reducible refine (spec_l5Components.calls k _ _ l0 t241 _ ?side1 ?side2 A4.out).mono ?_); (case side1 => repeat (first | exact HR0.out | (with_reducible refine Kd.C_alloc ?_ _) | (with_reducible refine Kd.C_drewN ?_ _) | (with_reducible refine Kd.C_drew ?_))); (case side2 => exact HC0.out); rintro e w5 ⟨v242, rfl, ho0, hb⟩; refine ⟨_, rfl, ?_⟩; have n0_ := Am (Kd.S_lower ho0 (Bz (by repeat (first | exact HB.out | apply Ba | apply Bn | apply Bd)))); have n1_ := Am (Bt (by repeat (first | exact HB.out | apply Ba | apply Bn | apply Bd)) hb); clear HB; have HO243 := n0_; have HB := n1_; clear n0_ n1_; (try clear hb); (try clear hb2); (try clear hk); (try clear hi); (try clear ho0)))
  go_ret2
  exact ⟨_, by first | rfl | (simp [*, errW_none, errW_some] <;> rfl), by (with_reducible repeat (first | apply Sa | apply Sn | apply Sd)); exact HO243.out, by repeat (first | exact HB.out | apply Ba | apply Bn | apply Bd)⟩
 ·replace c3 := Bool.eq_false_iff.mpr c3
  subst c3
  have H1 : (some (([] : List (List Int)), false)) = some (r1, r2) := by rw [if_neg (show ¬ (false = true) by decide)] at H; exact H
  clear H
  have H := H1
  clear H1
  simp only [Option.some.injEq, Prod.mk.injEq] at H
  obtain ⟨rfl, rfl⟩ := H
  go_enter Try.func26, Try.ntmps26
  go_wp2_with (first | ((refine Gc (f := 29) rfl ?_); refine goesL_ (some 5) rfl rfl Try.func29 (by kernel_rfl) rfl #[.slice A0 l0.length c0] rfl (by first | rfl | (simp only [List.map_toArray, List.map_cons, List.map_nil]; first | done | rfl)) ?_; (with_reducible refine (spec_GoodGraph.calls k _ _ l0 false _ ?side1 ?side2 A2.out).mono ?_); (case side1 => repeat (first | exact HR0.out | (with_reducible refine Kd.C_alloc ?_ _) | (with_reducible refine Kd.C_drewN ?_ _) | (with_reducible refine Kd.C_drew ?_))); (case side2 => exact HC0.out); rintro e w' ⟨rfl, ⟨nd, rfl⟩⟩; refine ⟨_, rfl, ?_⟩))
  go_ret2
  exact ⟨_, by first | rfl | (simp [*, errW_none, errW_some] <;> rfl), by first | exact Kd.S_nil _ _ _ _ _ | exact Kd.N_nil _ _ _ _ _ | exact Kd.V_nil _ _ _ _ _ | exact Kd.Q_nil _ _ _ _ _ | exact Kd.R_nil _ _ _ _ _, by repeat (first | exact HB.out | apply Ba | apply Bn | apply Bd)⟩
def laws_sameLists.l0 : Nat → List (List Int) → List (List Int) → Int → Int → Option (Bool)
 | 0, _, _, _, _ => none
 | k + 1, x0, x1, x12, x13 => if x13 < x12 then (if 0 ≤ x13 then (if x13 < (x0.length : Int) then (if x13 < (x1.length : Int) then ((laws_sameInts.f k (rd_L2 x0 x13) (rd_L2 x1 x13)).bind fun t246 => (if t246 = true then (laws_sameLists.l0 k x0 x1 x12 (wrap64 (x13 + 1))) else (some false))) else (none)) else (none)) else (none)) else (some true)
def laws_sameLists.f (k : Nat) (l0 : List (List Int)) (l1 : List (List Int)) : Option (Bool) := if (l0.length : Int) = (l1.length : Int) then (laws_sameLists.l0 k l0 l1 (l0.length : Int) 0) else (some false)
theorem laws_sameLists.mono_l : ∀ k, (∀ y0 y1 y2 y3, LeO (laws_sameLists.l0 k y0 y1 y2 y3) (laws_sameLists.l0 (k + 1) y0 y1 y2 y3))
 | 0 => fun _ _ _ _ r h => by simp [laws_sameLists.l0] at h
 | k + 1 => by
  have ih0 := laws_sameLists.mono_l k
  ·intro y0 y1 y2 y3
   unfold laws_sameLists.l0
   repeat' first
   | (with_reducible exact ih0 _ _ _ _)
   | (with_reducible exact laws_sameInts.mono _ _ _)
   | (with_reducible exact LeO.refl _)
   | (with_reducible exact LeO.none _)
   | (with_reducible refine LeO.ite ?_ ?_)
   | (with_reducible refine LeO.bind ?_ (fun _ => ?_))
   | exact ih0 _ _ _ _
   | exact laws_sameInts.mono _ _ _
   | exact LeO.none _
   | refine LeO.ite ?_ ?_
   | refine LeO.bind ?_ (fun _ => ?_)
theorem laws_sameLists.mono : ∀ a0 a1 k, LeO (laws_sameLists.f k a0 a1) (laws_sameLists.f (k + 1) a0 a1) := by
 intro a0 a1 k
 have ih0 := laws_sameLists.mono_l k
 unfold laws_sameLists.f
 repeat' first
   | (with_reducible exact ih0 _ _ _ _)
   | (with_reducible exact laws_sameInts.mono _ _ _)
   | (with_reducible exact LeO.refl _)
   | (with_reducible exact LeO.none _)
   | (with_reducible refine LeO.ite ?_ ?_)
   | (with_reducible refine LeO.bind ?_ (fun _ => ?_))
   | exact ih0 _ _ _ _
   | exact laws_sameInts.mono _ _ _
   | exact LeO.none _
   | refine LeO.ite ?_ ?_
   | refine LeO.bind ?_ (fun _ => ?_)
set_option maxHeartbeats 8000000 in
set_option maxRecDepth 100000 in
theorem laws_sameLists.calls (k : Nat) (A0 : Option Addr) (c0 : Nat) (l0 : List (List Int)) (A1 : Option Addr) (c1 : Nat) (l1 : List (List Int)) (r : Bool) (w : World) (hr0 : Kd.C (Kd.slice 3 (Kd.int .i64)) w A0 l0.length l0) (hc0 : l0.length ≤ c0) (hr1 : Kd.C (Kd.slice 3 (Kd.int .i64)) w A1 l1.length l1) (hc1 : l1.length ≤ c1) (h : laws_sameLists.f k l0 l1 = some r) :
  Calls Try.prog 27 #[.slice A0 l0.length c0, .slice A1 l1.length c1] w fun e w' => e = .returned (.bool r) ∧ Drawn0 w w' := by
 have HR0 := Am hr0
 have HC0 := Am hc0
 clear hr0 hc0
 have HR1 := Am hr1
 have HC1 := Am hc1
 clear hr1 hc1
 have H : (if (l0.length : Int) = (l1.length : Int) then (laws_sameLists.l0 k l0 l1 (l0.length : Int) 0) else (some false)) = some r := h
 clear h
 by_cases c3 : (l0.length : Int) = (l1.length : Int)
 ·rw [if_pos c3] at H
  have c3b0 : ((l0.length : Int) == (l1.length : Int)) = true := beq_iff_eq.mpr c3
  have c3b1 : ((l0.length : Int) != (l1.length : Int)) = false := bne_eq_false_iff_eq.mpr c3
  have c3b2 : (l0.length == l1.length) = true := by first | simpa using c3 | (simp at c3 ⊢; omega)
  clear c3
  have H' := Am H
  clear H
  go_enter Try.func27, Try.ntmps27
  go_wp2
  repeat (go_quiet (fail); try go_wp2)
  go_loopg [13] k (fun kq v13 w' => ∃ (x13_1 : Int), v13 = .int .i64 x13_1 ∧ Ad (laws_sameLists.l0 kq l0 l1 (l0.length : Int) x13_1 = some r) ∧ Ad (kq ≤ k) ∧ Drawn0 w w')
  case atStart => exact ⟨(0), (by first | rfl | (simp; done) | (simp [*]; done)), H', ⟨Nat.le_refl _⟩, by repeat (first | exact Drawn0.refl _ | apply Drawn0.step)⟩
  case round =>
   clear H'
   try clear c1
   try clear c2
   try clear p2
   try clear c3
   try clear c3b0
   try clear c3b1
   try clear c3b2
   obtain ⟨x13_1, rfl, HA, HK1, ⟨m1, rfl⟩⟩ := hrel
   cases gk with
   | zero => exact absurd HA.out (by simp [laws_sameLists.l0])
   | succ k1 =>
    have H := HA.out
    clear HA
    simp only [laws_sameLists.l0] at H
    by_cases c4 : x13_1 < (l0.length : Int)
    ·rw [if_pos c4] at H
     have c4b0 : decide (x13_1 < (l0.length : Int)) = true := decide_eq_true c4
     clear c4
     by_cases c5 : 0 ≤ x13_1
     ·rw [if_pos c5] at H
      have c5b0 : decide (0 ≤ x13_1) = true := decide_eq_true c5
      clear c5
      by_cases c6 : x13_1 < (l0.length : Int)
      ·rw [if_pos c6] at H
       have c6b0 : decide (x13_1 < (l0.length : Int)) = true := decide_eq_true c6
       clear c6
       by_cases c7 : x13_1 < (l1.length : Int)
       ·rw [if_pos c7] at H
        have c7b0 : decide (x13_1 < (l1.length : Int)) = true := decide_eq_true c7
        clear c7
        replace H := Option.bind_eq_some_iff.mp H
        obtain ⟨t246, A80, H⟩ := H
        replace H : (if t246 = true then (laws_sameLists.l0 k1 l0 l1 (l0.length : Int) (wrap64 (x13_1 + 1))) else (some false)) = some r := H
        have A8 := Am A80
        clear A80
        by_cases c9 : t246 = true
        ·subst c9
         have H1 : (laws_sameLists.l0 k1 l0 l1 (l0.length : Int) (wrap64 (x13_1 + 1))) = some r := by rw [if_pos rfl] at H; exact H
         clear H
         have H := H1
         clear H1
         have H' := Am H
         clear H
         have p244 : 0 ≤ (x13_1 : Int) := of_decide_eq_true (by assumption)
         have q244 : x13_1 < (l0.length : Int) := of_decide_eq_true (by assumption)
         obtain ⟨ad244, A244_0, c244_0, e244, hx244_0, hl244_0, hi244_0⟩ := at_L2 HR0.out x13_1 p244 q244
         cases e244
         have HR244_0 := Am hi244_0
         have HC244_0 := Am hl244_0
         clear hi244_0 hl244_0
         replace p244 := eq_true p244
         replace q244 := eq_true q244
         have p245 : 0 ≤ (x13_1 : Int) := of_decide_eq_true (by assumption)
         have q245 : x13_1 < (l1.length : Int) := of_decide_eq_true (by assumption)
         obtain ⟨ad245, A245_0, c245_0, e245, hx245_0, hl245_0, hi245_0⟩ := at_L2 HR1.out x13_1 p245 q245
         cases e245
         have HR245_0 := Am hi245_0
         have HC245_0 := Am hl245_0
         clear hi245_0 hl245_0
         replace p245 := eq_true p245
         replace q245 := eq_true q245
         go_wp2_with (first | (go_at_call 19; (with_reducible refine (laws_sameInts.calls k1 _ _ (rd_L2 l0 x13_1) _ _ (rd_L2 l1 x13_1) true _ ?side1 ?side2 ?side3 ?side4 A8.out).mono ?_); (case side1 => repeat (first | exact HR244_0.out | (with_reducible refine Kd.C_alloc ?_ _) | (with_reducible refine Kd.C_drewN ?_ _) | (with_reducible refine Kd.C_drew ?_))); (case side2 => exact HC244_0.out); (case side3 => repeat (first | exact HR245_0.out | (with_reducible refine Kd.C_alloc ?_ _) | (with_reducible refine Kd.C_drewN ?_ _) | (with_reducible refine Kd.C_drew ?_))); (case side4 => exact HC245_0.out); rintro e w' ⟨rfl, ⟨nd, rfl⟩⟩; (try first | exact ⟨rfl, _, World.drewN_drewN _ _ _⟩ | exact ⟨rfl, _, Eq.trans (World.drewN_drewN _ _ _) (congrArg (World.drewN _) (Nat.add_assoc _ _ _))⟩)))
         repeat (go_quiet (first | (go_at_call 19; (with_reducible refine (laws_sameInts.calls k1 _ _ (rd_L2 l0 x13_1) _ _ (rd_L2 l1 x13_1) true _ ?side1 ?side2 ?side3 ?side4 A8.out).mono ?_); (case side1 => repeat (first | exact HR244_0.out | (with_reducible refine Kd.C_alloc ?_ _) | (with_reducible refine Kd.C_drewN ?_ _) | (with_reducible refine Kd.C_drew ?_))); (case side2 => exact HC244_0.out); (case side3 => repeat (first | exact HR245_0.out | (with_reducible refine Kd.C_alloc ?_ _) | (with_reducible refine Kd.C_drewN ?_ _) | (with_reducible refine Kd.C_drew ?_))); (case side4 => exact HC245_0.out); rintro e w' ⟨rfl, ⟨nd, rfl⟩⟩; (try first | exact ⟨rfl, _, World.drewN_drewN _ _ _⟩ | exact ⟨rfl, _, Eq.trans (World.drewN_drewN _ _ _) (congrArg (World.drewN _) (Nat.add_assoc _ _ _))⟩))); try go_wp2_with (first | (go_at_call 19; (with_reducible refine (laws_sameInts.calls k1 _ _ (rd_L2 l0 x13_1) _ _ (rd_L2 l1 x13_1) true _ ?side1 ?side2 ?side3 ?side4 A8.out).mono ?_); (case side1 => repeat (first | exact HR244_0.out | (with_reducible refine Kd.C_alloc ?_ _) | (with_reducible refine Kd.C_drewN ?_ _) | (with_reducible refine Kd.C_drew ?_))); (case side2 => exact HC244_0.out); (case side3 => repeat (first | exact HR245_0.out | (with_reducible refine Kd.C_alloc ?_ _) | (with_reducible refine Kd.C_drewN ?_ _) | (with_reducible refine Kd.C_drew ?_))); (case side4 => exact HC245_0.out); rintro e w' ⟨rfl, ⟨nd, rfl⟩⟩; (try first | exact ⟨rfl, _, World.drewN_drewN _ _ _⟩ | exact ⟨rfl, _, Eq.trans (World.drewN_drewN _ _ _) (congrArg (World.drewN _) (Nat.add_assoc _ _ _))⟩))))
         go_roundg k1
         case measure => have := HK1.out; omega
         case rel => exact ⟨(wrap64 (x13_1 + 1)), (by first | rfl | (simp; done) | (simp [*]; done)), H', ⟨by have := HK1.out; omega⟩, by repeat (first | exact Drawn0.refl _ | apply Drawn0.step)⟩
        ·replace c9 := Bool.eq_false_iff.mpr c9
         subst c9
         have H1 : (some false) = some r := by rw [if_neg (show ¬ (false = true) by decide)] at H; exact H
         clear H
         have H := H1
         clear H1
         obtain rfl := Option.some.inj H
         have p244 : 0 ≤ (x13_1 : Int) := of_decide_eq_true (by assumption)
         have q244 : x13_1 < (l0.length : Int) := of_decide_eq_true (by assumption)
         obtain ⟨ad244, A244_0, c244_0, e244, hx244_0, hl244_0, hi244_0⟩ := at_L2 HR0.out x13_1 p244 q244
         cases e244
         have HR244_0 := Am hi244_0
         have HC244_0 := Am hl244_0
         clear hi244_0 hl244_0
         replace p244 := eq_true p244
         replace q244 := eq_true q244
         have p245 : 0 ≤ (x13_1 : Int) := of_decide_eq_true (by assumption)
         have q245 : x13_1 < (l1.length : Int) := of_decide_eq_true (by assumption)
         obtain ⟨ad245, A245_0, c245_0, e245, hx245_0, hl245_0, hi245_0⟩ := at_L2 HR1.out x13_1 p245 q245
         cases e245
         have HR245_0 := Am hi245_0
         have HC245_0 := Am hl245_0
         clear hi245_0 hl245_0
         replace p245 := eq_true p245
         replace q245 := eq_true q245
         go_wp2_with (first | (go_at_call 19; (with_reducible refine (laws_sameInts.calls k1 _ _ (rd_L2 l0 x13_1) _ _ (rd_L2 l1 x13_1) false _ ?side1 ?side2 ?side3 ?side4 A8.out).mono ?_); (case side1 => repeat (first | exact HR244_0.out | (with_reducible refine Kd.C_alloc ?_ _) | (with_reducible refine Kd.C_drewN ?_ _) | (with_reducible refine Kd.C_drew ?_))); (case side2 => exact HC244_0.out); (case side3 => repeat (first | exact HR245_0.out | (with_reducible refine Kd.C_alloc ?_ _) | (with_reducible refine Kd.C_drewN ?_ _) | (with_reducible refine Kd.C_drew ?_))); (case side4 => exact HC245_0.out); rintro e w' ⟨rfl, ⟨nd, rfl⟩⟩; (try first | exact ⟨rfl, _, World.drewN_drewN _ _ _⟩ | exact ⟨rfl, _, Eq.trans (World.drewN_drewN _ _ _) (congrArg (World.drewN _) (Nat.add_assoc _ _ _))⟩)))
         repeat (go_quiet (first | (go_at_call 19; (with_reducible refine (laws_sameInts.calls k1 _ _ (rd_L2 l0 x13_1) _ _ (rd_L2 l1 x13_1) false _ ?side1 ?side2 ?side3 ?side4 A8.out).mono ?_); (case side1 => repeat (first | exact HR244_0.out | (with_reducible refine Kd.C_alloc ?_ _) | (with_reducible refine Kd.C_drewN ?_ _) | (with_reducible refine Kd.C_drew ?_))); (case side2 => exact HC244_0.out); (case side3 => repeat (first | exact HR245_0.out | (with_reducible refine Kd.C_alloc ?_ _) | (with_reducible refine Kd.C_drewN ?_ _) | (with_reducible refine Kd.C_drew ?_))); (case side4 => exact HC245_0.out); rintro e w' ⟨rfl, ⟨nd, rfl⟩⟩; (try first | exact ⟨rfl, _, World.drewN_drewN _ _ _⟩ | exact ⟨rfl, _, Eq.trans (World.drewN_drewN _ _ _) (congrArg (World.drewN _) (Nat.add_assoc _ _ _))⟩))); try go_wp2_with (first | (go_at_call 19; (with_reducible refine (laws_sameInts.calls k1 _ _ (rd_L2 l0 x13_1) _ _ (rd_L2 l1 x13_1) false _ ?side1 ?side2 ?side3 ?side4 A8.out).mono ?_); (case side1 => repeat (first | exact HR244_0.out | (with_reducible refine Kd.C_alloc ?_ _) | (with_reducible refine Kd.C_drewN ?_ _) | (with_reducible refine Kd.C_drew ?_))); (case side2 => exact HC244_0.out); (case side3 => repeat (first | exact HR245_0.out | (with_reducible refine Kd.C_alloc ?_ _) | (with_reducible refine Kd.C_drewN ?_ _) | (with_reducible refine Kd.C_drew ?_))); (case side4 => exact HC245_0.out); rintro e w' ⟨rfl, ⟨nd, rfl⟩⟩; (try first | exact ⟨rfl, _, World.drewN_drewN _ _ _⟩ | exact ⟨rfl, _, Eq.trans (World.drewN_drewN _ _ _) (congrArg (World.drewN _) (Nat.add_assoc _ _ _))⟩))))
         go_ret
         exact ⟨by first | rfl | (simp; done) | (simp [*]; done), by repeat (first | exact Drawn0.refl _ | apply Drawn0.step)⟩
       ·rw [if_neg c7] at H
        exact absurd H (by simp)
      ·rw [if_neg c6] at H
       exact absurd H (by simp)
     ·rw [if_neg c5] at H
      exact absurd H (by simp)
    ·rw [if_neg c4] at H
     have c4b0 : decide (x13_1 < (l0.length : Int)) = false := decide_eq_false c4
     clear c4
     obtain rfl := Option.some.inj H
     go_wp2
     repeat (go_quiet (fail); try go_wp2)
     go_ret
     exact ⟨by first | rfl | (simp; done) | (simp [*]; done), by repeat (first | exact Drawn0.refl _ | apply Drawn0.step)⟩
 ·rw [if_neg c3] at H
  have c3b0 : ((l0.length : Int) == (l1.length : Int)) = false := beq_eq_false_iff_ne.mpr c3
  have c3b1 : ((l0.length : Int) != (l1.length : Int)) = true := bne_iff_ne.mpr c3
  have c3b2 : (l0.length == l1.length) = false := by first | simpa using c3 | (simp at c3 ⊢; omega)
  obtain rfl := Option.some.inj H
  go_enter Try.func27, Try.ntmps27
  go_wp2
  repeat (go_quiet (fail); try go_wp2)
  go_ret
  exact ⟨by first | rfl | (simp; done) | (simp [*]; done), by repeat (first | exact Drawn0.refl _ | apply Drawn0.step)⟩
def laws_has.l0 : Nat → Int → List Int → Int → Int → Option (Bool)
 | 0, _, _, _, _ => none
 | k + 1, x1, x7, x8, x9 => if x9 < x8 then (if 0 ≤ x9 then (if x9 < (x7.length : Int) then (if (rd x7 x9) = x1 then (some true) else (laws_has.l0 k x1 x7 x8 (wrap64 (x9 + 1)))) else (none)) else (none)) else (some false)
def laws_has.f (k : Nat) (l0 : List Int) (a1 : Int) : Option (Bool) := laws_has.l0 k a1 l0 (l0.length : Int) 0
theorem laws_has.mono_l : ∀ k, (∀ y0 y1 y2 y3, LeO (laws_has.l0 k y0 y1 y2 y3) (laws_has.l0 (k + 1) y0 y1 y2 y3))
 | 0 => fun _ _ _ _ r h => by simp [laws_has.l0] at h
 | k + 1 => by
  have ih0 := laws_has.mono_l k
  ·intro y0 y1 y2 y3
   unfold laws_has.l0
   repeat' first
   | (with_reducible exact ih0 _ _ _ _)
   | (with_reducible exact LeO.refl _)
   | (with_reducible exact LeO.none _)
   | (with_reducible refine LeO.ite ?_ ?_)
   | (with_reducible refine LeO.bind ?_ (fun _ => ?_))
   | exact ih0 _ _ _ _
   | exact LeO.none _
   | refine LeO.ite ?_ ?_
   | refine LeO.bind ?_ (fun _ => ?_)
theorem laws_has.mono : ∀ a0 a1 k, LeO (laws_has.f k a0 a1) (laws_has.f (k + 1) a0 a1) := by
 intro a0 a1 k
 have ih0 := laws_has.mono_l k
 unfold laws_has.f
 repeat' first
   | (with_reducible exact ih0 _ _ _ _)
   | (with_reducible exact LeO.refl _)
   | (with_reducible exact LeO.none _)
   | (with_reducible refine LeO.ite ?_ ?_)
   | (with_reducible refine LeO.bind ?_ (fun _ => ?_))
   | exact ih0 _ _ _ _
   | exact LeO.none _
   | refine LeO.ite ?_ ?_
   | refine LeO.bind ?_ (fun _ => ?_)
set_option maxHeartbeats 8000000 in
set_option maxRecDepth 100000 in
theorem laws_has.calls (k : Nat) (A0 : Option Addr) (c0 : Nat) (l0 : List Int) (a1 : Int) (r : Bool) (w : World) (hr0 : Kd.C (Kd.int .i64) w A0 l0.length l0) (hc0 : l0.length ≤ c0) (h : laws_has.f k l0 a1 = some r) :
  Calls Try.prog 30 #[.slice A0 l0.length c0, .int .i64 a1] w fun e w' => e = .returned (.bool r) ∧ Drawn0 w w' := by
 have HR0 := Am hr0
 have HC0 := Am hc0
 clear hr0 hc0
 have H : (laws_has.l0 k a1 l0 (l0.length : Int) 0) = some r := h
 clear h
 have H' := Am H
 clear H
 go_enter Try.func30, Try.ntmps30
 go_wp2
 go_loopg [9] k (fun kq v9 w' => ∃ (x9_1 : Int), v9 = .int .i64 x9_1 ∧ Ad (laws_has.l0 kq a1 l0 (l0.length : Int) x9_1 = some r) ∧ Ad (kq ≤ k) ∧ Drawn0 w w')
 case atStart => exact ⟨(0), (by first | rfl | (simp; done) | (simp [*]; done)), H', ⟨Nat.le_refl _⟩, by repeat (first | exact Drawn0.refl _ | apply Drawn0.step)⟩
 case round =>
  clear H'
  try clear p2
  obtain ⟨x9_1, rfl, HA, HK1, ⟨m1, rfl⟩⟩ := hrel
  cases gk with
  | zero => exact absurd HA.out (by simp [laws_has.l0])
  | succ k1 =>
   have H := HA.out
   clear HA
   simp only [laws_has.l0] at H
   by_cases c3 : x9_1 < (l0.length : Int)
   ·rw [if_pos c3] at H
    have c3b0 : decide (x9_1 < (l0.length : Int)) = true := decide_eq_true c3
    clear c3
    by_cases c4 : 0 ≤ x9_1
    ·rw [if_pos c4] at H
     have c4b0 : decide (0 ≤ x9_1) = true := decide_eq_true c4
     clear c4
     by_cases c5 : x9_1 < (l0.length : Int)
     ·rw [if_pos c5] at H
      have c5b0 : decide (x9_1 < (l0.length : Int)) = true := decide_eq_true c5
      clear c5
      by_cases c6 : (rd l0 x9_1) = a1
      ·rw [if_pos c6] at H
       have c6b0 : ((rd l0 x9_1) == a1) = true := beq_iff_eq.mpr c6
       have c6b1 : ((rd l0 x9_1) != a1) = false := bne_eq_false_iff_eq.mpr c6
       clear c6
       obtain rfl := Option.some.inj H
       have p247 : 0 ≤ (x9_1 : Int) := of_decide_eq_true (by assumption)
       have q247 : x9_1 < (l0.length : Int) := of_decide_eq_true (by assumption)
       obtain ⟨ad247, e247, hx247_0⟩ := Kd.at_int HR0.out x9_1 p247 q247
       cases e247
       replace p247 := eq_true p247
       replace q247 := eq_true q247
       go_wp2
       go_ret
       exact ⟨by first | rfl | (simp; done) | (simp [*]; done), by repeat (first | exact Drawn0.refl _ | apply Drawn0.step)⟩
      ·rw [if_neg c6] at H
       have c6b0 : ((rd l0 x9_1) == a1) = false := beq_eq_false_iff_ne.mpr c6
       have c6b1 : ((rd l0 x9_1) != a1) = true := bne_iff_ne.mpr c6
       have H' := Am H
       clear H
       have p247 : 0 ≤ (x9_1 : Int) := of_decide_eq_true (by assumption)
       have q247 : x9_1 < (l0.length : Int) := of_decide_eq_true (by assumption)
       obtain ⟨ad247, e247, hx247_0⟩ := Kd.at_int HR0.out x9_1 p247 q247
       cases e247
       replace p247 := eq_true p247
       replace q247 := eq_true q247
       go_wp2
       go_roundg k1
       case measure => have := HK1.out; omega
       case rel => exact ⟨(wrap64 (x9_1 + 1)), (by first | rfl | (simp; done) | (simp [*]; done)), H', ⟨by have := HK1.out; omega⟩, by repeat (first | exact Drawn0.refl _ | apply Drawn0.step)⟩
     ·rw [if_neg c5] at H
      exact absurd H (by simp)
    ·rw [if_neg c4] at H
     exact absurd H (by simp)
   ·rw [if_neg c3] at H
    have c3b0 : decide (x9_1 < (l0.length : Int)) = false := decide_eq_false c3
    clear c3
    obtain rfl := Option.some.inj H
    go_wp2
    go_ret
    exact ⟨by first | rfl | (simp; done) | (simp [*]; done), by repeat (first | exact Drawn0.refl _ | apply Drawn0.step)⟩
def spec_DrawReachedFrom.f (k : Nat) (l0 : List Int) : Option (List (List Int) × Int) := (spec_l1Cur_graph.f k l0 0 0).bind fun t => (spec_l1Cur_pick.f l0 t.2.1 t.2.2 (wrap64 ((t.1.length : Int) + 1))).bind fun p => (spec_l1Cur_pick.f l0 p.2.1 p.2.2 20).bind fun q => some (t.1, wrap64 (p.1 - wrap64 (Int.tdiv q.1 19)))
theorem spec_DrawReachedFrom.mono : ∀ l0 k, LeO (spec_DrawReachedFrom.f k l0) (spec_DrawReachedFrom.f (k + 1) l0) := by
 intro l0 k
 unfold spec_DrawReachedFrom.f
 exact LeO.bind (spec_l1Cur_graph.mono l0 0 0 k) (fun _ => LeO.refl _)
set_option maxHeartbeats 8000000 in
set_option maxRecDepth 100000 in
theorem spec_DrawReachedFrom.calls (k : Nat) (A0 : Option Addr) (c0 : Nat) (l0 : List Int) (r1 : List (List Int)) (r2 : Int) (w : World) (hr0 : Kd.C (Kd.int .u8) w A0 l0.length l0) (hc0 : l0.length ≤ c0) (h : spec_DrawReachedFrom.f k l0 = some (r1, r2)) :
  Calls Try.prog 31 #[.slice A0 l0.length c0] w fun e w' => ∃ v0_ : Value, e = .returned (.tuple #[v0_, .int .i64 r2]) ∧ Kd.S (Kd.slice 3 (Kd.int .i64)) 23 w' w.heap.size (fun _ => True) v0_ r1 ∧ Below w.heap.size w w' := by
 unfold spec_DrawReachedFrom.f at h
 obtain ⟨⟨t1, a1, s1⟩, hg, h⟩ := Option.bind_eq_some_iff.1 h
 obtain ⟨⟨p1, a2, s2⟩, hp, h⟩ := Option.bind_eq_some_iff.1 h
 obtain ⟨⟨q1, a3, s3⟩, hq, h⟩ := Option.bind_eq_some_iff.1 h
 simp only [Option.some.injEq, Prod.mk.injEq] at h
 obtain ⟨h1, h2⟩ := h
 try dsimp only at hp hq h1 h2
 subst h1
 have HE := Am h2
 have HG := Am hg
 have HP := Am hp
 have HQ := Am hq
 clear h2 hg hp hq
 have HR := Am hr0
 clear hr0 hc0
 go_enter Try.func31, Try.ntmps31
 go_upto_region 2 with (fail)
 refine letC (fun W_ => Below w.heap.size w W_ ∧ W_.heap[w.heap.size]? = some (.cells #[.slice A0 l0.length c0, .int .i64 0, .int .u64 0] 94 (0, 0))) ⟨Ba (Below.refl _ _) _, blk_new w (.cells #[.slice A0 l0.length c0, .int .i64 0, .int .u64 0] 94)⟩ ?_
 rintro W0 ⟨hb, hx⟩
 have HB0 := Am hb
 have HI0 : Ad (IsS94 w W0 w.heap.size l0 0 0) := ⟨⟨A0, c0, hx, Nat.le_refl _, HR.out⟩⟩
 clear hb hx
 generalize w.heap.size = g at HI0
 go_wp2_with fail
 refine (spec_l1Cur_graph.calls k g l0 0 0 t1 a1 s1 w W0 HI0.out HB0.out HG.out).mono ?_
 rintro e W1 ⟨v, rfl, hS, hI, hB, hK⟩
 have HS1 := Am (Kd.S_lower hS HB0.out.size)
 have HI1 := Am hI
 have HB1 := Am hB
 clear hS hI hB hK HI0 HB0
 obtain ⟨A5, c5, e5⟩ := Kd.S_slice HS1.out
 subst e5
 go_wp2_with fail
 refine (spec_l1Cur_pick.calls g l0 a1 s1 (wrap64 ((t1.length : Int) + 1)) p1 a2 s2 w W1 HI1.out HB1.out HP.out).mono ?_
 rintro e W2 ⟨rfl, hI, hB, hK⟩
 obtain ⟨_, _, hc_, _, _⟩ := HI1.out
 have HS2 := Am (Kd.S_mono (Kd.S_keep (Kd.S_types HS1.out hc_ (by decide)) hK (fun k_ hk => hk.2)) (fun _ _ => trivial))
 have HI2 := Am hI
 have HB2 := Am hB
 clear hI hB hK hc_ HI1 HB1 HS1
 go_wp2_with fail
 refine (spec_l1Cur_pick.calls g l0 a2 s2 20 q1 a3 s3 w W2 HI2.out HB2.out HQ.out).mono ?_
 rintro e W3 ⟨rfl, hI, hB, hK⟩
 obtain ⟨_, _, hc_, _, _⟩ := HI2.out
 have HS3 := Am (Kd.S_mono (Kd.S_keep (Kd.S_types HS2.out hc_ (by decide)) hK (fun k_ hk => hk.2)) (fun _ _ => trivial))
 have HI3 := Am hI
 have HB3 := Am hB
 clear hI hB hK hc_ HI2 HB2 HS2
 go_wp2
 go_ret2
 exact ⟨_, by rw [← HE.out]; first | rfl | simp, HS3.out, HB3.out⟩
def spec_ReachedFrom.f (k : Nat) (l0 : List (List Int)) (a1 : Int) : Option (List Int × Bool) := (spec_GoodGraph.f k l0).bind fun t248 => (if t248 = true then ((spec_l1In.f a1 0 (wrap64 ((l0.length : Int) - 1))).bind fun t249 => (if t249 = true then ((spec_l5Reached.f k l0 a1).bind fun t250 => (some (t250, true))) else (some (([] : List Int), false)))) else (some (([] : List Int), false)))
theorem spec_ReachedFrom.mono : ∀ a0 a1 k, LeO (spec_ReachedFrom.f k a0 a1) (spec_ReachedFrom.f (k + 1) a0 a1) := by
 intro a0 a1 k
 unfold spec_ReachedFrom.f
 repeat' first
   | (with_reducible exact spec_GoodGraph.mono _ _)
   | (with_reducible exact spec_l5Reached.mono _ _ _)
   | (with_reducible exact LeO.refl _)
   | (with_reducible exact LeO.none _)
   | (with_reducible refine LeO.ite ?_ ?_)
   | (with_reducible refine LeO.bind ?_ (fun _ => ?_))
   | exact spec_GoodGraph.mono _ _
   | exact spec_l5Reached.mono _ _ _
   | exact LeO.none _
   | refine LeO.ite ?_ ?_
   | refine LeO.bind ?_ (fun _ => ?_)
set_option maxHeartbeats 8000000 in
set_option maxRecDepth 100000 in
theorem spec_ReachedFrom.calls (k : Nat) (A0 : Option Addr) (c0 : Nat) (l0 : List (List Int)) (a1 : Int) (r1 : List Int) (r2 : Bool) (w : World) (hr0 : Kd.C (Kd.slice 3 (Kd.int .i64)) w A0 l0.length l0) (hc0 : l0.length ≤ c0) (h : spec_ReachedFrom.f k l0 a1 = some (r1, r2)) :
  Calls Try.prog 32 #[.slice A0 l0.length c0, .int .i64 a1] w fun e w' => ∃ v0_ : Value, e = .returned (.tuple #[v0_, .bool r2]) ∧ Kd.R (Kd.int .i64) 3 w' w.heap.size (fun _ => True) v0_ r1 ∧ Below w.heap.size w w' := by
 have HR0 := Am hr0
 have HC0 := Am hc0
 clear hr0 hc0
 have HB := Am (Below.refl w.heap.size w)
 have H : ((spec_GoodGraph.f k l0).bind fun t248 => (if t248 = true then ((spec_l1In.f a1 0 (wrap64 ((l0.length : Int) - 1))).bind fun t249 => (if t249 = true then ((spec_l5Reached.f k l0 a1).bind fun t250 => (some (t250, true))) else (some (([] : List Int), false)))) else (some (([] : List Int), false)))) = some (r1, r2) := h
 clear h
 replace H := Option.bind_eq_some_iff.mp H
 obtain ⟨t248, A30, H⟩ := H
 replace H : (if t248 = true then ((spec_l1In.f a1 0 (wrap64 ((l0.length : Int) - 1))).bind fun t249 => (if t249 = true then ((spec_l5Reached.f k l0 a1).bind fun t250 => (some (t250, true))) else (some (([] : List Int), false)))) else (some (([] : List Int), false))) = some (r1, r2) := H
 have A3 := Am A30
 clear A30
 by_cases c4 : t248 = true
 ·subst c4
  have H1 : ((spec_l1In.f a1 0 (wrap64 ((l0.length : Int) - 1))).bind fun t249 => (if t249 = true then ((spec_l5Reached.f k l0 a1).bind fun t250 => (some (t250, true))) else (some (([] : List Int), false)))) = some (r1, r2) := by rw [if_pos rfl] at H; exact H
  clear H
  have H := H1
  clear H1
  replace H := Option.bind_eq_some_iff.mp H
  obtain ⟨t249, A50, H⟩ := H
  replace H : (if t249 = true then ((spec_l5Reached.f k l0 a1).bind fun t250 => (some (t250, true))) else (some (([] : List Int), false))) = some (r1, r2) := H
  have A5 := Am A50
  clear A50
  by_cases c6 : t249 = true
  ·subst c6
   have H1 : ((spec_l5Reached.f k l0 a1).bind fun t250 => (some (t250, true))) = some (r1, r2) := by rw [if_pos rfl] at H; exact H
   clear H
   have H := H1
   clear H1
   replace H := Option.bind_eq_some_iff.mp H
   obtain ⟨t250, A70, H⟩ := H
   replace H : (some (t250, true)) = some (r1, r2) := H
   have A7 := Am A70
   clear A70
   simp only [Option.some.injEq, Prod.mk.injEq] at H
   obtain ⟨rfl, rfl⟩ := H
   go_enter Try.func32, Try.ntmps32
   go_wp2_with (first | ((refine Gc (f := 29) rfl ?_); refine goesL_ (some 7) rfl rfl Try.func29 (by kernel_rfl) rfl #[.slice A0 l0.length c0] rfl (by first | rfl | (simp only [List.map_toArray, List.map_cons, List.map_nil]; first | done | rfl)) ?_; (with_reducible refine (spec_GoodGraph.calls k _ _ l0 true _ ?side1 ?side2 A3.out).mono ?_); (case side1 => repeat (first | exact HR0.out | (with_reducible refine Kd.C_alloc ?_ _) | (with_reducible refine Kd.C_drewN ?_ _) | (with_reducible refine Kd.C_drew ?_))); (case side2 => exact HC0.out); rintro e w' ⟨rfl, ⟨nd, rfl⟩⟩; refine ⟨_, rfl, ?_⟩) | (go_at_call 79; (with_reducible refine (spec_l1In.calls a1 0 (wrap64 ((l0.length : Int) - 1)) true _ A5.out).mono ?_); rintro e w' ⟨rfl, ⟨nd, rfl⟩⟩) | ((refine Gc (f := 50) rfl ?_); refine goesL_ (some 19) rfl rfl Try.func50 (by kernel_rfl) rfl #[.slice A0 l0.length c0, .int .i64 a1] rfl (by first | rfl | (simp only [List.map_toArray, List.map_cons, List.map_nil]; first | done | rfl)) ?_; (with_reducible refine (spec_l5Reached.calls k _ _ l0 a1 t250 _ ?side1 ?side2 A7.out).mono ?_); (case side1 => repeat (first | exact HR0.out | (with_reducible refine Kd.C_alloc ?_ _) | (with_reducible refine Kd.C_drewN ?_ _) | (with_reducible refine Kd.C_drew ?_))); (case side2 => exact HC0.out); rintro e w8 ⟨v251, rfl, ho0, hb⟩; refine ⟨_, rfl, ?_⟩; have n0_ := Am (Kd.R_lower ho0 (Bz (by repeat (first | exact HB.out | apply Ba | apply Bn | apply Bd)))); have n1_ := Am (Bt (by repeat (first | exact HB.out | apply Ba | apply Bn | apply Bd)) hb); clear HB; have HO252 := n0_; have HB := n1_; clear n0_ n1_; (try clear hb); (try clear hb2); (try clear hk); (try clear hi); (try clear ho0)))
   go_ret2
   exact ⟨_, by first | rfl | (simp [*, errW_none, errW_some] <;> rfl), by (with_reducible repeat (first | apply Ra | apply Rn | apply Rd)); exact HO252.out, by repeat (first | exact HB.out | apply Ba | apply Bn | apply Bd)⟩
  ·replace c6 := Bool.eq_false_iff.mpr c6
   subst c6
   have H1 : (some (([] : List Int), false)) = some (r1, r2) := by rw [if_neg (show ¬ (false = true) by decide)] at H; exact H
   clear H
   have H := H1
   clear H1
   simp only [Option.some.injEq, Prod.mk.injEq] at H
   obtain ⟨rfl, rfl⟩ := H
   go_enter Try.func32, Try.ntmps32
   go_wp2_with (first | ((refine Gc (f := 29) rfl ?_); refine goesL_ (some 7) rfl rfl Try.func29 (by kernel_rfl) rfl #[.slice A0 l0.length c0] rfl (by first | rfl | (simp only [List.map_toArray, List.map_cons, List.map_nil]; first | done | rfl)) ?_; (with_reducible refine (spec_GoodGraph.calls k _ _ l0 true _ ?side1 ?side2 A3.out).mono ?_); (case side1 => repeat (first | exact HR0.out | (with_reducible refine Kd.C_alloc ?_ _) | (with_reducible refine Kd.C_drewN ?_ _) | (with_reducible refine Kd.C_drew ?_))); (case side2 => exact HC0.out); rintro e w' ⟨rfl, ⟨nd, rfl⟩⟩; refine ⟨_, rfl, ?_⟩) | (go_at_call 79; (with_reducible refine (spec_l1In.calls a1 0 (wrap64 ((l0.length : Int) - 1)) false _ A5.out).mono ?_); rintro e w' ⟨rfl, ⟨nd, rfl⟩⟩))
   go_ret2
   exact ⟨_, by first | rfl | (simp [*, errW_none, errW_some] <;> rfl), by first | exact Kd.R_nil _ _ _ _ _ | exact Kd.N_nil _ _ _ _ _ | exact Kd.V_nil _ _ _ _ _ | exact Kd.Q_nil _ _ _ _ _ | exact Kd.S_nil _ _ _ _ _, by repeat (first | exact HB.out | apply Ba | apply Bn | apply Bd)⟩
 ·replace c4 := Bool.eq_false_iff.mpr c4
  subst c4
  have H1 : (some (([] : List Int), false)) = some (r1, r2) := by rw [if_neg (show ¬ (false = true) by decide)] at H; exact H
  clear H
  have H := H1
  clear H1
  simp only [Option.some.injEq, Prod.mk.injEq] at H
  obtain ⟨rfl, rfl⟩ := H
  go_enter Try.func32, Try.ntmps32
  go_wp2_with (first | ((refine Gc (f := 29) rfl ?_); refine goesL_ (some 7) rfl rfl Try.func29 (by kernel_rfl) rfl #[.slice A0 l0.length c0] rfl (by first | rfl | (simp only [List.map_toArray, List.map_cons, List.map_nil]; first | done | rfl)) ?_; (with_reducible refine (spec_GoodGraph.calls k _ _ l0 false _ ?side1 ?side2 A3.out).mono ?_); (case side1 => repeat (first | exact HR0.out | (with_reducible refine Kd.C_alloc ?_ _) | (with_reducible refine Kd.C_drewN ?_ _) | (with_reducible refine Kd.C_drew ?_))); (case side2 => exact HC0.out); rintro e w' ⟨rfl, ⟨nd, rfl⟩⟩; refine ⟨_, rfl, ?_⟩))
  go_ret2
  exact ⟨_, by first | rfl | (simp [*, errW_none, errW_some] <;> rfl), by first | exact Kd.R_nil _ _ _ _ _ | exact Kd.N_nil _ _ _ _ _ | exact Kd.V_nil _ _ _ _ _ | exact Kd.Q_nil _ _ _ _ _ | exact Kd.S_nil _ _ _ _ _, by repeat (first | exact HB.out | apply Ba | apply Bn | apply Bd)⟩
end Go.Proofs.Ytpboalgecejoeaa.QFnComponents
