-- Written by a program of this session (wip/mk.py) over the kit's print: Lean checks it.
import Derived.Test.YtilmcfdhijdhpaaQFnExactGoodReplicax0
import Derived.Test.YtilmcfdhijdhpaaQFnExactGoodReplicax1
import Derived.Test.YtilmcfdhijdhpaaQFnExactGoodReplicax8
import Derived.Test.YtilmcfdhijdhpaaQFnExactGoodReplicax10
namespace Go.Proofs.Ytilmcfdhijdhpaa.QFnExactGoodReplica
open Go.Proofs.YtilmcfdhijdhpaaW.PrintWords renaming below_alloc → Ba, gate_callee → Gc, blk_alloc → Ka, blk_below → Kb, blk_cell → Kc
open Go.Proofs.YtilmcfdhijdhpaaW.PrintWords.Aside0 renaming mk → Am
open Go.Proofs.YtilmcfdhijdhpaaW.PrintWords renaming Aside0 → Ad
open Go.RowKit Go.Proofs.YtilmcfdhijdhpaaW.PrintWords Go.Proofs.YtilmcfdhijdhpaaW.PrintLast Go.Proofs.YtilmcfdhijdhpaaW.PrintMore
attribute [local go_sem] max2_int min2_int max_two min_two max_three min_three max_four min_four   -- for this text's walks alone
open Go.Proofs.YtilmcfdhijdhpaaW.PrintWords.Kd renaming C_below → Cb
open Go.Proofs.YtilmcfdhijdhpaaW.PrintWords renaming below_then → Bh
set_option linter.unusedVariables false
set_option linter.unusedSimpArgs false
attribute [local go_sem high] eqA28
theorem impl_goodLead.two {o : Option Bool} {t e : Option Bool} {r : Bool} (h : (o.bind fun b => if b = true then t else e) = some r) : ∃ b, Ad (o = some b) ∧ Ad ((if b = true then t else e) = some r) := by
 obtain ⟨b, h1, h2⟩ := Option.bind_eq_some_iff.1 h
 exact ⟨b, ⟨h1⟩, ⟨h2⟩⟩
def impl_goodLead.z9 (x : S77) : Option Bool := if x.f9.length = 0 then some true else some false
def impl_goodLead.p1 (x : S77) : Option Bool := (impl_GoodCmd.f x.f4.f0 x.f4.f1 x.f4.f2 x.f4.f3 x.f4.f4).bind fun b => if b = true then impl_goodLead.z9 x else some false
def impl_goodLead.y3 (K : Nat) (x : S77) : Option Bool := (impl_SameAttr.f K x.f5.f0 x.f5.f1 x.f6.f0 x.f6.f1).bind fun b => if b = true then some (!x.f7) else some false
def impl_goodLead.y2 (K : Nat) (x : S77) : Option Bool := if x.f9.length = 0 then impl_goodLead.y3 K x else some false
def impl_goodLead.p2 (K : Nat) (x : S77) : Option Bool := (impl_GoodCmd.f x.f4.f0 x.f4.f1 x.f4.f2 x.f4.f3 x.f4.f4).bind fun b => if b = true then impl_goodLead.y2 K x else some false
def impl_goodLead.any (k : Nat) (l0 : List S39) (n : Int) : Option Bool := Mine.anyO (fun y : S39 => impl_goodLead_1.f k y.f0 y.f1 y.f2 y.f3.f0 y.f3.f1 y.f3.f2 y.f3.f3 y.f3.f4 y.f4.f0 y.f4.f1 n) l0
theorem impl_goodLead.anyCalls (k : Nat) (A0 : Option Addr) (c0 : Nat) (l0 : List S39) (gq0 : Nat) (n : Int) (r : Bool) (w : World) (hr0 : Kd.C k39 w A0 l0.length l0) (hc0 : l0.length ≤ c0) (hb0 : w.heap[gq0]? = some (.cells #[.int .i64 n] 3 (0, 0))) (h : impl_goodLead.any k l0 n = some r) :
  Calls Try.prog 50 #[.slice A0 l0.length c0, .func (.func 79) #[] #[.pointer (some ⟨gq0, 0, none⟩)]] w fun e w' => e = .returned (.bool r) ∧ Below w.heap.size w w' :=
 impl_Row_50.anyO 79 #[.pointer (some ⟨gq0, 0, none⟩)] (fun y : S39 => impl_goodLead_1.f k y.f0 y.f1 y.f2 y.f3.f0 y.f3.f1 y.f3.f2 y.f3.f3 y.f3.f4 y.f4.f0 y.f4.f1 n) A0 c0 l0 w r (fun args w => enters_ Try.func79 (by kernel_rfl) rfl args w) hr0 hc0
  (fun W y A9 c9 hx bW hi9 hl9 b hb_ => (impl_goodLead_1.calls k y.f0 y.f1 y.f2 y.f3.f0 y.f3.f1 y.f3.f2 y.f3.f3 y.f3.f4 y.f4.f0 A9 c9 y.f4.f1 gq0 n b W hi9 hl9 (Kb hb0 bW) hb_).mono (fun e w' hh => ⟨hh.1, hh.2⟩)) h
def impl_goodLead.u4 (K : Nat) (n : Int) (x : S77) : Option Bool := (impl_goodLead.any K x.f9 n).bind fun b => if b = true then some false else some true
def impl_goodLead.u3 (K : Nat) (n : Int) (x : S77) : Option Bool := if x.f7 = true then some false else if x.f9.length = x.f8.length then impl_goodLead.u4 K n x else some false
def impl_goodLead.u2 (K : Nat) (n : Int) (x : S77) (o : Int × List Int) : Option Bool := (impl_SameAttr.f K x.f6.f0 x.f6.f1 o.1 o.2).bind fun b => if b = true then impl_goodLead.u3 K n x else some false
def impl_goodLead.u1 (K : Nat) (n : Int) (x : S77) (o : Int × List Int) : Option Bool := (impl_SameAttr.f K x.f5.f0 x.f5.f1 o.1 o.2).bind fun b => if b = true then impl_goodLead.u2 K n x o else some false
def impl_goodLead.p3 (K : Nat) (n : Int) (x : S77) (o : Int × List Int) : Option Bool := if (x.f4.f0 == 0 && (x.f4.f1 == 0 && (x.f4.f2 == 0 && (x.f4.f3 == 0 && (x.f4.f4 == 0))))) = true then impl_goodLead.u1 K n x o else some false
def impl_goodLead.s7 (K : Nat) (n : Int) (x : S77) : Option Bool := if x.f3 = 1 then impl_goodLead.p1 x else if x.f3 = 2 then impl_goodLead.p2 K x else if x.f3 = 3 then (impl_noneAttr.f n).bind fun o => impl_goodLead.p3 K n x o else some false
def impl_goodLead.s6 (K : Nat) (n : Int) (x : S77) : Option Bool := (impl_GoodAttr.f n x.f6.f0 x.f6.f1).bind fun b => if b = true then impl_goodLead.s7 K n x else some false
def impl_goodLead.s5 (K : Nat) (n : Int) (x : S77) : Option Bool := (impl_GoodAttr.f n x.f5.f0 x.f5.f1).bind fun b => if b = true then impl_goodLead.s6 K n x else some false
def impl_goodLead.s4 (K : Nat) (n me : Int) (x : S77) : Option Bool := (slices_Contains_int_int.f K x.f8 me).bind fun b => if b = true then impl_goodLead.s5 K n x else some false
def impl_goodLead.s3 (K : Nat) (n me : Int) (x : S77) : Option Bool := (impl_areMembers.f n x.f8).bind fun b => if b = true then impl_goodLead.s4 K n me x else some false
def impl_goodLead.s2 (K : Nat) (n me : Int) (x : S77) : Option Bool := (impl_within.f x.f2 0 9999).bind fun b => if b = true then impl_goodLead.s3 K n me x else some false
def impl_goodLead.f (K : Nat) (n me : Int) (x : S77) : Option Bool := (impl_isInstance.f n x.f0 x.f1).bind fun b => if b = true then impl_goodLead.s2 K n me x else some false
set_option maxHeartbeats 4000000 in
set_option maxRecDepth 100000 in
theorem impl_goodLead.calls (K : Nat) (n me : Int) (x : S77) (A10 : Option Addr) (c10 : Nat) (A12 : Option Addr) (c12 : Nat) (A14 : Option Addr) (c14 : Nat) (A15 : Option Addr) (c15 : Nat) (r : Bool) (w : World) (h10 : Kd.C (Kd.int .i64) w A10 x.f5.f1.length x.f5.f1) (m10 : x.f5.f1.length ≤ c10) (h12 : Kd.C (Kd.int .i64) w A12 x.f6.f1.length x.f6.f1) (m12 : x.f6.f1.length ≤ c12) (h14 : Kd.C (Kd.int .i64) w A14 x.f8.length x.f8) (m14 : x.f8.length ≤ c14) (h15 : Kd.C k39 w A15 x.f9.length x.f9) (m15 : x.f9.length ≤ c15) (h : impl_goodLead.f K n me x = some r) :
  Calls Try.prog 38 #[.int .i64 n, .int .i64 me, .agg #[.int .i64 x.f0, .int .i64 x.f1, .int .i64 x.f2, .int .i64 x.f3, .int .i64 x.f4.f0, .int .i64 x.f4.f1, .int .i64 x.f4.f2, .int .i64 x.f4.f3, .int .i64 x.f4.f4, .int .i64 x.f5.f0, .slice A10 x.f5.f1.length c10, .int .i64 x.f6.f0, .slice A12 x.f6.f1.length c12, .bool x.f7, .slice A14 x.f8.length c14, .slice A15 x.f9.length c15]] w fun e w' => e = .returned (.bool r) ∧ Below w.heap.size w w' := by
 have hu := Try.underlying77
 have hu2 := Try.underlying28
 have hu3 := Try.underlying33
 have H10 := Am h10
 have H12 := Am h12
 have H14 := Am h14
 have H15 := Am h15
 have HI := Am h
 clear h h10 h12 h14 h15
 go_enter Try.func38, Try.ntmps38
 go_upto_region 1 with (fail)
 refine letC (fun W_ => ∃ gn gl : Nat, gn = w.heap.size ∧ gl = w.heap.size + 1 ∧ Below w.heap.size w W_ ∧ W_.heap[gn]? = some (.cells #[.int .i64 n] 3 (0, 0)) ∧ W_.heap[gl]? = some (.cells #[.int .i64 x.f0, .int .i64 x.f1, .int .i64 x.f2, .int .i64 x.f3, .int .i64 x.f4.f0, .int .i64 x.f4.f1, .int .i64 x.f4.f2, .int .i64 x.f4.f3, .int .i64 x.f4.f4, .int .i64 x.f5.f0, .slice A10 x.f5.f1.length c10, .int .i64 x.f6.f0, .slice A12 x.f6.f1.length c12, .bool x.f7, .slice A14 x.f8.length c14, .slice A15 x.f9.length c15] 77 (0, 0))) ⟨_, _, rfl, rfl, Ba (Ba (Below.refl _ _) _) _, by simpa using Ka (blk_new w (.cells #[.int .i64 n] 3)) (.cells #[.int .i64 x.f0, .int .i64 x.f1, .int .i64 x.f2, .int .i64 x.f3, .int .i64 x.f4.f0, .int .i64 x.f4.f1, .int .i64 x.f4.f2, .int .i64 x.f4.f3, .int .i64 x.f4.f4, .int .i64 x.f5.f0, .slice A10 x.f5.f1.length c10, .int .i64 x.f6.f0, .slice A12 x.f6.f1.length c12, .bool x.f7, .slice A14 x.f8.length c14, .slice A15 x.f9.length c15] 77), by simpa using blk_new (w.alloc (.cells #[.int .i64 n] 3)) (.cells #[.int .i64 x.f0, .int .i64 x.f1, .int .i64 x.f2, .int .i64 x.f3, .int .i64 x.f4.f0, .int .i64 x.f4.f1, .int .i64 x.f4.f2, .int .i64 x.f4.f3, .int .i64 x.f4.f4, .int .i64 x.f5.f0, .slice A10 x.f5.f1.length c10, .int .i64 x.f6.f0, .slice A12 x.f6.f1.length c12, .bool x.f7, .slice A14 x.f8.length c14, .slice A15 x.f9.length c15] 77)⟩ ?_
 rintro W0 ⟨gn, gl, e_gn, e_gl, hb, x_gn, x_gl⟩
 have HZ := Am hb
 have BN := Am x_gn
 have BL := Am x_gl
 have HB : Ad (Below W0.heap.size W0 W0) := ⟨Below.refl _ _⟩
 rw [← e_gl, ← e_gn]
 clear hb x_gn x_gl e_gn e_gl
 obtain ⟨b, HF, HJ⟩ := impl_goodLead.two HI.out
 clear HI
 have qn0 : W0.cell? ⟨gn, 0, none⟩ = some (.int .i64 n) := (Kc (Kb BN.out HB.out) 0).trans rfl
 have ql0 : W0.cell? ⟨gl, 0, none⟩ = some (.int .i64 x.f0) := (Kc (Kb BL.out HB.out) 0).trans rfl
 have ql1 : W0.cell? ⟨gl, 1, none⟩ = some (.int .i64 x.f1) := (Kc (Kb BL.out HB.out) 1).trans rfl
 go_wp2_with fail
 refine (impl_isInstance.calls n x.f0 x.f1 b W0  HF.out).mono ?_
 rintro e W1 ⟨rfl, hd⟩
 have hb := hd.below
 replace HB := Am (Bh HB.out HB.out.size hb)
 clear hb hd HF qn0 ql0 ql1
 cases b with
 | false =>
  obtain rfl : false = r := Option.some.inj HJ.out
  clear HJ
  go_wp2
  go_ret
  exact ⟨rfl, Bh HZ.out HZ.out.size HB.out⟩
 | true =>
  have HI : Ad (impl_goodLead.s2 K n me x = some r) := ⟨HJ.out⟩
  clear HJ
  obtain ⟨b, HF, HJ⟩ := impl_goodLead.two HI.out
  clear HI
  have ql2 : W1.cell? ⟨gl, 2, none⟩ = some (.int .i64 x.f2) := (Kc (Kb BL.out HB.out) 2).trans rfl
  go_wp2_with fail
  refine (impl_within.calls x.f2 0 9999 b W1  HF.out).mono ?_
  rintro e W2 ⟨rfl, hd⟩
  have hb := hd.below
  replace HB := Am (Bh HB.out HB.out.size hb)
  clear hb hd HF ql2
  cases b with
  | false =>
   obtain rfl : false = r := Option.some.inj HJ.out
   clear HJ
   go_wp2
   go_ret
   exact ⟨rfl, Bh HZ.out HZ.out.size HB.out⟩
  | true =>
   have HI : Ad (impl_goodLead.s3 K n me x = some r) := ⟨HJ.out⟩
   clear HJ
   obtain ⟨b, HF, HJ⟩ := impl_goodLead.two HI.out
   clear HI
   have qn0 : W2.cell? ⟨gn, 0, none⟩ = some (.int .i64 n) := (Kc (Kb BN.out HB.out) 0).trans rfl
   have ql14 : W2.cell? ⟨gl, 14, none⟩ = some (.slice A14 x.f8.length c14) := (Kc (Kb BL.out HB.out) 14).trans rfl
   go_wp2_with fail
   refine (impl_areMembers.calls n A14 c14 x.f8 b W2 (Cb H14.out (Bh HZ.out HZ.out.size HB.out)) m14 HF.out).mono ?_
   rintro e W3 ⟨rfl, hb⟩
   replace HB := Am (Bh HB.out HB.out.size hb)
   clear hb HF qn0 ql14
   cases b with
   | false =>
    obtain rfl : false = r := Option.some.inj HJ.out
    clear HJ
    go_wp2
    go_ret
    exact ⟨rfl, Bh HZ.out HZ.out.size HB.out⟩
   | true =>
    have HI : Ad (impl_goodLead.s4 K n me x = some r) := ⟨HJ.out⟩
    clear HJ
    obtain ⟨b, HF, HJ⟩ := impl_goodLead.two HI.out
    clear HI
    have ql14 : W3.cell? ⟨gl, 14, none⟩ = some (.slice A14 x.f8.length c14) := (Kc (Kb BL.out HB.out) 14).trans rfl
    go_wp2_with fail
    refine (slices_Contains_int_int.calls K A14 c14 x.f8 me b W3 (Cb H14.out (Bh HZ.out HZ.out.size HB.out)) m14 HF.out).mono ?_
    rintro e W4 ⟨rfl, hd⟩
    have hb := hd.below
    replace HB := Am (Bh HB.out HB.out.size hb)
    clear hb hd HF ql14
    cases b with
    | false =>
     obtain rfl : false = r := Option.some.inj HJ.out
     clear HJ
     go_wp2
     go_ret
     exact ⟨rfl, Bh HZ.out HZ.out.size HB.out⟩
    | true =>
     have HI : Ad (impl_goodLead.s5 K n x = some r) := ⟨HJ.out⟩
     clear HJ
     obtain ⟨b, HF, HJ⟩ := impl_goodLead.two HI.out
     clear HI
     have qn0 : W4.cell? ⟨gn, 0, none⟩ = some (.int .i64 n) := (Kc (Kb BN.out HB.out) 0).trans rfl
     have ql9 : W4.cell? ⟨gl, 9, none⟩ = some (.int .i64 x.f5.f0) := (Kc (Kb BL.out HB.out) 9).trans rfl
     have ql10 : W4.cell? ⟨gl, 10, none⟩ = some (.slice A10 x.f5.f1.length c10) := (Kc (Kb BL.out HB.out) 10).trans rfl
     go_wp2_with fail
     refine (impl_GoodAttr.calls n x.f5.f0 A10 c10 x.f5.f1 b W4 (Cb H10.out (Bh HZ.out HZ.out.size HB.out)) m10 HF.out).mono ?_
     rintro e W5 ⟨rfl, hb⟩
     replace HB := Am (Bh HB.out HB.out.size hb)
     clear hb HF qn0 ql9 ql10
     cases b with
     | false =>
      obtain rfl : false = r := Option.some.inj HJ.out
      clear HJ
      go_wp2
      go_ret
      exact ⟨rfl, Bh HZ.out HZ.out.size HB.out⟩
     | true =>
      have HI : Ad (impl_goodLead.s6 K n x = some r) := ⟨HJ.out⟩
      clear HJ
      obtain ⟨b, HF, HJ⟩ := impl_goodLead.two HI.out
      clear HI
      have qn0 : W5.cell? ⟨gn, 0, none⟩ = some (.int .i64 n) := (Kc (Kb BN.out HB.out) 0).trans rfl
      have ql11 : W5.cell? ⟨gl, 11, none⟩ = some (.int .i64 x.f6.f0) := (Kc (Kb BL.out HB.out) 11).trans rfl
      have ql12 : W5.cell? ⟨gl, 12, none⟩ = some (.slice A12 x.f6.f1.length c12) := (Kc (Kb BL.out HB.out) 12).trans rfl
      go_wp2_with fail
      refine (impl_GoodAttr.calls n x.f6.f0 A12 c12 x.f6.f1 b W5 (Cb H12.out (Bh HZ.out HZ.out.size HB.out)) m12 HF.out).mono ?_
      rintro e W6 ⟨rfl, hb⟩
      replace HB := Am (Bh HB.out HB.out.size hb)
      clear hb HF qn0 ql11 ql12
      cases b with
      | false =>
       obtain rfl : false = r := Option.some.inj HJ.out
       clear HJ
       go_wp2
       go_ret
       exact ⟨rfl, Bh HZ.out HZ.out.size HB.out⟩
      | true =>
       have HI : Ad (impl_goodLead.s7 K n x = some r) := ⟨HJ.out⟩
       clear HJ
       have ql3 : W6.cell? ⟨gl, 3, none⟩ = some (.int .i64 x.f3) := (Kc (Kb BL.out HB.out) 3).trans rfl
       by_cases p1 : x.f3 = 1
       ·skip
        replace HI : Ad (impl_goodLead.p1 x = some r) := ⟨by have h_ := HI.out; unfold impl_goodLead.s7 at h_; rw [if_pos p1] at h_; exact h_⟩
        have e1 : (x.f3 == 1) = true := beq_iff_eq.mpr p1
        obtain ⟨b, HF, HJ⟩ := impl_goodLead.two HI.out
        clear HI
        have ql4 : W6.cell? ⟨gl, 4, none⟩ = some (.int .i64 x.f4.f0) := (Kc (Kb BL.out HB.out) 4).trans rfl
        have ql5 : W6.cell? ⟨gl, 5, none⟩ = some (.int .i64 x.f4.f1) := (Kc (Kb BL.out HB.out) 5).trans rfl
        have ql6 : W6.cell? ⟨gl, 6, none⟩ = some (.int .i64 x.f4.f2) := (Kc (Kb BL.out HB.out) 6).trans rfl
        have ql7 : W6.cell? ⟨gl, 7, none⟩ = some (.int .i64 x.f4.f3) := (Kc (Kb BL.out HB.out) 7).trans rfl
        have ql8 : W6.cell? ⟨gl, 8, none⟩ = some (.int .i64 x.f4.f4) := (Kc (Kb BL.out HB.out) 8).trans rfl
        go_wp2_with fail
        refine (impl_GoodCmd.calls x.f4.f0 x.f4.f1 x.f4.f2 x.f4.f3 x.f4.f4 b W6  HF.out).mono ?_
        rintro e W7 ⟨rfl, hb⟩
        replace HB := Am (Bh HB.out HB.out.size hb)
        clear hb HF ql3 ql4 ql5 ql6 ql7 ql8
        cases b with
        | false =>
         obtain rfl : false = r := Option.some.inj HJ.out
         clear HJ
         go_wp2
         go_ret
         exact ⟨rfl, Bh HZ.out HZ.out.size HB.out⟩
        | true =>
         have HI : Ad (impl_goodLead.z9 x = some r) := ⟨HJ.out⟩
         clear HJ
         have ql15 : W7.cell? ⟨gl, 15, none⟩ = some (.slice A15 x.f9.length c15) := (Kc (Kb BL.out HB.out) 15).trans rfl
         by_cases z9 : x.f9.length = 0
         ·skip
          have e9 : ((x.f9.length : Int) == 0) = true := by rw [z9]; rfl
          replace HI : Ad (some true = some r) := ⟨by have h_ := HI.out; unfold impl_goodLead.z9 at h_; rw [if_pos z9] at h_; exact h_⟩
          obtain rfl : true = r := Option.some.inj HI.out
          clear HI
          go_wp2
          go_ret
          exact ⟨rfl, Bh HZ.out HZ.out.size HB.out⟩
         ·skip
          replace HI : Ad (some false = some r) := ⟨by have h_ := HI.out; unfold impl_goodLead.z9 at h_; rw [if_neg z9] at h_; exact h_⟩
          have e9 : ((x.f9.length : Int) == 0) = false := by rw [beq_eq_false_iff_ne]; omega
          obtain rfl : false = r := Option.some.inj HI.out
          clear HI
          go_wp2
          go_ret
          exact ⟨rfl, Bh HZ.out HZ.out.size HB.out⟩
       ·skip
        by_cases p2 : x.f3 = 2
        ·skip
         replace HI : Ad (impl_goodLead.p2 K x = some r) := ⟨by have h_ := HI.out; unfold impl_goodLead.s7 at h_; rw [if_neg p1, if_pos p2] at h_; exact h_⟩
         have e1 : (x.f3 == 1) = false := beq_eq_false_iff_ne.mpr p1
         have e2 : (x.f3 == 2) = true := beq_iff_eq.mpr p2
         obtain ⟨b, HF, HJ⟩ := impl_goodLead.two HI.out
         clear HI
         have ql4 : W6.cell? ⟨gl, 4, none⟩ = some (.int .i64 x.f4.f0) := (Kc (Kb BL.out HB.out) 4).trans rfl
         have ql5 : W6.cell? ⟨gl, 5, none⟩ = some (.int .i64 x.f4.f1) := (Kc (Kb BL.out HB.out) 5).trans rfl
         have ql6 : W6.cell? ⟨gl, 6, none⟩ = some (.int .i64 x.f4.f2) := (Kc (Kb BL.out HB.out) 6).trans rfl
         have ql7 : W6.cell? ⟨gl, 7, none⟩ = some (.int .i64 x.f4.f3) := (Kc (Kb BL.out HB.out) 7).trans rfl
         have ql8 : W6.cell? ⟨gl, 8, none⟩ = some (.int .i64 x.f4.f4) := (Kc (Kb BL.out HB.out) 8).trans rfl
         go_wp2_with fail
         refine (impl_GoodCmd.calls x.f4.f0 x.f4.f1 x.f4.f2 x.f4.f3 x.f4.f4 b W6  HF.out).mono ?_
         rintro e W8 ⟨rfl, hb⟩
         replace HB := Am (Bh HB.out HB.out.size hb)
         clear hb HF ql3 ql4 ql5 ql6 ql7 ql8
         cases b with
         | false =>
          obtain rfl : false = r := Option.some.inj HJ.out
          clear HJ
          go_wp2
          go_ret
          exact ⟨rfl, Bh HZ.out HZ.out.size HB.out⟩
         | true =>
          have HI : Ad (impl_goodLead.y2 K x = some r) := ⟨HJ.out⟩
          clear HJ
          by_cases z9 : x.f9.length = 0
          ·skip
           have e9 : ((x.f9.length : Int) == 0) = true := by rw [z9]; rfl
           replace HI : Ad (impl_goodLead.y3 K x = some r) := ⟨by have h_ := HI.out; unfold impl_goodLead.y2 at h_; rw [if_pos z9] at h_; exact h_⟩
           obtain ⟨b, HF, HJ⟩ := impl_goodLead.two HI.out
           clear HI
           have ql15 : W8.cell? ⟨gl, 15, none⟩ = some (.slice A15 x.f9.length c15) := (Kc (Kb BL.out HB.out) 15).trans rfl
           have ql9 : W8.cell? ⟨gl, 9, none⟩ = some (.int .i64 x.f5.f0) := (Kc (Kb BL.out HB.out) 9).trans rfl
           have ql10 : W8.cell? ⟨gl, 10, none⟩ = some (.slice A10 x.f5.f1.length c10) := (Kc (Kb BL.out HB.out) 10).trans rfl
           have ql11 : W8.cell? ⟨gl, 11, none⟩ = some (.int .i64 x.f6.f0) := (Kc (Kb BL.out HB.out) 11).trans rfl
           have ql12 : W8.cell? ⟨gl, 12, none⟩ = some (.slice A12 x.f6.f1.length c12) := (Kc (Kb BL.out HB.out) 12).trans rfl
           go_wp2_with fail
           refine (impl_SameAttr.calls K x.f5.f0 A10 c10 x.f5.f1 x.f6.f0 A12 c12 x.f6.f1 b W8 (Cb H10.out (Bh HZ.out HZ.out.size HB.out)) m10 (Cb H12.out (Bh HZ.out HZ.out.size HB.out)) m12 HF.out).mono ?_
           rintro e W9 ⟨rfl, hb⟩
           replace HB := Am (Bh HB.out HB.out.size hb)
           clear hb HF ql15 ql9 ql10 ql11 ql12
           cases b with
           | false =>
            obtain rfl : false = r := Option.some.inj HJ.out
            clear HJ
            go_wp2
            go_ret
            exact ⟨rfl, Bh HZ.out HZ.out.size HB.out⟩
           | true =>
            have HI : Ad (some (!x.f7) = some r) := ⟨HJ.out⟩
            clear HJ
            have ql13 : W9.cell? ⟨gl, 13, none⟩ = some (.bool x.f7) := (Kc (Kb BL.out HB.out) 13).trans rfl
            obtain rfl : (!x.f7) = r := Option.some.inj HI.out
            clear HI
            go_wp2
            go_ret
            exact ⟨rfl, Bh HZ.out HZ.out.size HB.out⟩
          ·skip
           replace HI : Ad (some false = some r) := ⟨by have h_ := HI.out; unfold impl_goodLead.y2 at h_; rw [if_neg z9] at h_; exact h_⟩
           have e9 : ((x.f9.length : Int) == 0) = false := by rw [beq_eq_false_iff_ne]; omega
           have ql15 : W8.cell? ⟨gl, 15, none⟩ = some (.slice A15 x.f9.length c15) := (Kc (Kb BL.out HB.out) 15).trans rfl
           obtain rfl : false = r := Option.some.inj HI.out
           clear HI
           go_wp2
           go_ret
           exact ⟨rfl, Bh HZ.out HZ.out.size HB.out⟩
        ·skip
         by_cases p3 : x.f3 = 3
         ·skip
          have HI2 : Ad (((impl_noneAttr.f n).bind fun o => impl_goodLead.p3 K n x o) = some r) := ⟨by have h_ := HI.out; unfold impl_goodLead.s7 at h_; rw [if_neg p1, if_neg p2, if_pos p3] at h_; exact h_⟩
          have e1 : (x.f3 == 1) = false := beq_eq_false_iff_ne.mpr p1
          have e2 : (x.f3 == 2) = false := beq_eq_false_iff_ne.mpr p2
          have e3 : (x.f3 == 3) = true := beq_iff_eq.mpr p3
          obtain ⟨⟨o1, o2⟩, hq, hI⟩ := Option.bind_eq_some_iff.1 HI2.out
          have HF := Am hq
          have HI : Ad (impl_goodLead.p3 K n x (o1, o2) = some r) := ⟨hI⟩
          clear HI2 hq hI
          have qn0 : W6.cell? ⟨gn, 0, none⟩ = some (.int .i64 n) := (Kc (Kb BN.out HB.out) 0).trans rfl
          go_wp2_with fail
          refine (impl_noneAttr.calls n o1 o2 W6 HF.out).mono ?_
          rintro e W10 ⟨v_, rfl, hR, hb⟩
          obtain ⟨Ao, co, rfl⟩ := Kd.R_slice hR
          have HO := Am (Kd.R_reads' hR).2
          clear hR
          replace HB := Am (Bh HB.out HB.out.size hb)
          clear hb HF ql3 qn0
          go_upto_region 10 with (fail)
          refine letC (fun W_ => ∃ go : Nat, go = W10.heap.size ∧ Below W10.heap.size W10 W_ ∧ W_.heap[go]? = some (.cells #[.int .i64 o1, .slice Ao o2.length co] 33 (0, 0))) ⟨_, rfl, Ba (Below.refl _ _) _, by simpa using blk_new W10 (.cells #[.int .i64 o1, .slice Ao o2.length co] 33)⟩ ?_
          rintro W11 ⟨go, e_go, hb, x_go⟩
          replace HO := Am (And.intro HO.out.1 (Cb HO.out.2 hb))
          have HD : Ad (Below W11.heap.size W11 W11) := ⟨Below.refl _ _⟩
          have BO := Am x_go
          replace HB := Am (Bh HB.out HB.out.size hb)
          rw [← e_go]
          clear hb x_go e_go
          by_cases hz : (x.f4.f0 == 0 && (x.f4.f1 == 0 && (x.f4.f2 == 0 && (x.f4.f3 == 0 && (x.f4.f4 == 0))))) = true
          ·skip
           replace HI : Ad (impl_goodLead.u1 K n x (o1, o2) = some r) := ⟨by have h_ := HI.out; unfold impl_goodLead.p3 at h_; rw [if_pos hz] at h_; exact h_⟩
           have hz0 : (x.f4.f0 == 0 && (x.f4.f1 == 0 && (x.f4.f2 == 0 && (x.f4.f3 == 0 && (x.f4.f4 == 0))))) = true := hz
           clear hz
           obtain ⟨b, HF, HJ⟩ := impl_goodLead.two HI.out
           clear HI
           have ql4 : W11.cell? ⟨gl, 4, none⟩ = some (.int .i64 x.f4.f0) := (Kc (Kb BL.out HB.out) 4).trans rfl
           have ql5 : W11.cell? ⟨gl, 5, none⟩ = some (.int .i64 x.f4.f1) := (Kc (Kb BL.out HB.out) 5).trans rfl
           have ql6 : W11.cell? ⟨gl, 6, none⟩ = some (.int .i64 x.f4.f2) := (Kc (Kb BL.out HB.out) 6).trans rfl
           have ql7 : W11.cell? ⟨gl, 7, none⟩ = some (.int .i64 x.f4.f3) := (Kc (Kb BL.out HB.out) 7).trans rfl
           have ql8 : W11.cell? ⟨gl, 8, none⟩ = some (.int .i64 x.f4.f4) := (Kc (Kb BL.out HB.out) 8).trans rfl
           have ql9 : W11.cell? ⟨gl, 9, none⟩ = some (.int .i64 x.f5.f0) := (Kc (Kb BL.out HB.out) 9).trans rfl
           have ql10 : W11.cell? ⟨gl, 10, none⟩ = some (.slice A10 x.f5.f1.length c10) := (Kc (Kb BL.out HB.out) 10).trans rfl
           have qo0 : W11.cell? ⟨go, 0, none⟩ = some (.int .i64 o1) := (Kc BO.out 0).trans rfl
           have qo1 : W11.cell? ⟨go, 1, none⟩ = some (.slice Ao o2.length co) := (Kc BO.out 1).trans rfl
           go_wp2_with fail
           refine (impl_SameAttr.calls K x.f5.f0 A10 c10 x.f5.f1 o1 Ao co o2 b W11 (Cb H10.out (Bh HZ.out HZ.out.size HB.out)) m10 HO.out.2 HO.out.1 HF.out).mono ?_
           rintro e W12 ⟨rfl, hb⟩
           replace BO := Am (Kb BO.out hb)
           replace HO := Am (And.intro HO.out.1 (Cb HO.out.2 hb))
           replace HB := Am (Bh HB.out HB.out.size hb)
           clear hb HF ql4 ql5 ql6 ql7 ql8 ql9 ql10 qo0 qo1
           cases b with
           | false =>
            obtain rfl : false = r := Option.some.inj HJ.out
            clear HJ
            go_wp2
            go_ret
            exact ⟨rfl, Bh HZ.out HZ.out.size HB.out⟩
           | true =>
            have HI : Ad (impl_goodLead.u2 K n x (o1, o2) = some r) := ⟨HJ.out⟩
            clear HJ
            obtain ⟨b, HF, HJ⟩ := impl_goodLead.two HI.out
            clear HI
            have ql11 : W12.cell? ⟨gl, 11, none⟩ = some (.int .i64 x.f6.f0) := (Kc (Kb BL.out HB.out) 11).trans rfl
            have ql12 : W12.cell? ⟨gl, 12, none⟩ = some (.slice A12 x.f6.f1.length c12) := (Kc (Kb BL.out HB.out) 12).trans rfl
            have qo0 : W12.cell? ⟨go, 0, none⟩ = some (.int .i64 o1) := (Kc BO.out 0).trans rfl
            have qo1 : W12.cell? ⟨go, 1, none⟩ = some (.slice Ao o2.length co) := (Kc BO.out 1).trans rfl
            go_wp2_with fail
            refine (impl_SameAttr.calls K x.f6.f0 A12 c12 x.f6.f1 o1 Ao co o2 b W12 (Cb H12.out (Bh HZ.out HZ.out.size HB.out)) m12 HO.out.2 HO.out.1 HF.out).mono ?_
            rintro e W13 ⟨rfl, hb⟩
            replace BO := Am (Kb BO.out hb)
            replace HO := Am (And.intro HO.out.1 (Cb HO.out.2 hb))
            replace HB := Am (Bh HB.out HB.out.size hb)
            clear hb HF ql11 ql12 qo0 qo1
            cases b with
            | false =>
             obtain rfl : false = r := Option.some.inj HJ.out
             clear HJ
             go_wp2
             go_ret
             exact ⟨rfl, Bh HZ.out HZ.out.size HB.out⟩
            | true =>
             have HI : Ad (impl_goodLead.u3 K n x = some r) := ⟨HJ.out⟩
             clear HJ
             have ql13 : W13.cell? ⟨gl, 13, none⟩ = some (.bool x.f7) := (Kc (Kb BL.out HB.out) 13).trans rfl
             by_cases h7 : x.f7 = true
             ·skip
              replace HI : Ad (some false = some r) := ⟨by have h_ := HI.out; unfold impl_goodLead.u3 at h_; rw [if_pos h7] at h_; exact h_⟩
              rw [h7] at ql13
              clear h7
              obtain rfl : false = r := Option.some.inj HI.out
              clear HI
              go_wp2
              go_ret
              exact ⟨rfl, Bh HZ.out HZ.out.size HB.out⟩
             ·skip
              have h7f : x.f7 = false := by simpa using h7
              rw [h7f] at ql13
              have ql15 : W13.cell? ⟨gl, 15, none⟩ = some (.slice A15 x.f9.length c15) := (Kc (Kb BL.out HB.out) 15).trans rfl
              have ql14 : W13.cell? ⟨gl, 14, none⟩ = some (.slice A14 x.f8.length c14) := (Kc (Kb BL.out HB.out) 14).trans rfl
              by_cases hl : x.f9.length = x.f8.length
              ·skip
               replace HI : Ad (impl_goodLead.u4 K n x = some r) := ⟨by have h_ := HI.out; unfold impl_goodLead.u3 at h_; rw [if_neg h7, if_pos hl] at h_; exact h_⟩
               have el : ((x.f9.length : Int) == (x.f8.length : Int)) = true := by rw [hl]; simp
               clear h7 h7f hl
               obtain ⟨b, HF, HJ⟩ := impl_goodLead.two HI.out
               clear HI
               go_wp2_with fail
               refine (impl_goodLead.anyCalls K A15 c15 x.f9 gn n b W13 (Cb H15.out (Bh HZ.out HZ.out.size HB.out)) m15 (Kb BN.out HB.out) HF.out).mono ?_
               rintro e W14 ⟨rfl, hb⟩
               replace BO := Am (Kb BO.out hb)
               replace HO := Am (And.intro HO.out.1 (Cb HO.out.2 hb))
               replace HB := Am (Bh HB.out HB.out.size hb)
               clear hb HF ql13 ql15 ql14
               cases b with
               | false =>
                obtain rfl : true = r := Option.some.inj HJ.out
                clear HJ
                go_wp2
                go_ret
                exact ⟨rfl, Bh HZ.out HZ.out.size HB.out⟩
               | true =>
                obtain rfl : false = r := Option.some.inj HJ.out
                clear HJ
                go_wp2
                go_ret
                exact ⟨rfl, Bh HZ.out HZ.out.size HB.out⟩
              ·skip
               replace HI : Ad (some false = some r) := ⟨by have h_ := HI.out; unfold impl_goodLead.u3 at h_; rw [if_neg h7, if_neg hl] at h_; exact h_⟩
               have el : ((x.f9.length : Int) == (x.f8.length : Int)) = false := by rw [beq_eq_false_iff_ne]; omega
               clear h7 h7f hl
               obtain rfl : false = r := Option.some.inj HI.out
               clear HI
               go_wp2
               go_ret
               exact ⟨rfl, Bh HZ.out HZ.out.size HB.out⟩
          ·skip
           replace HI : Ad (some false = some r) := ⟨by have h_ := HI.out; unfold impl_goodLead.p3 at h_; rw [if_neg hz] at h_; exact h_⟩
           have hz0 : (x.f4.f0 == 0 && (x.f4.f1 == 0 && (x.f4.f2 == 0 && (x.f4.f3 == 0 && (x.f4.f4 == 0))))) = false := by simpa using hz
           clear hz
           have ql4 : W11.cell? ⟨gl, 4, none⟩ = some (.int .i64 x.f4.f0) := (Kc (Kb BL.out HB.out) 4).trans rfl
           have ql5 : W11.cell? ⟨gl, 5, none⟩ = some (.int .i64 x.f4.f1) := (Kc (Kb BL.out HB.out) 5).trans rfl
           have ql6 : W11.cell? ⟨gl, 6, none⟩ = some (.int .i64 x.f4.f2) := (Kc (Kb BL.out HB.out) 6).trans rfl
           have ql7 : W11.cell? ⟨gl, 7, none⟩ = some (.int .i64 x.f4.f3) := (Kc (Kb BL.out HB.out) 7).trans rfl
           have ql8 : W11.cell? ⟨gl, 8, none⟩ = some (.int .i64 x.f4.f4) := (Kc (Kb BL.out HB.out) 8).trans rfl
           obtain rfl : false = r := Option.some.inj HI.out
           clear HI
           go_wp2
           all_goals go_ret
           all_goals exact ⟨rfl, Bh HZ.out HZ.out.size HB.out⟩
         ·skip
          replace HI : Ad (some false = some r) := ⟨by have h_ := HI.out; unfold impl_goodLead.s7 at h_; rw [if_neg p1, if_neg p2, if_neg p3] at h_; exact h_⟩
          have e1 : (x.f3 == 1) = false := beq_eq_false_iff_ne.mpr p1
          have e2 : (x.f3 == 2) = false := beq_eq_false_iff_ne.mpr p2
          have e3 : (x.f3 == 3) = false := beq_eq_false_iff_ne.mpr p3
          obtain rfl : false = r := Option.some.inj HI.out
          clear HI
          go_wp2
          go_ret
          exact ⟨rfl, Bh HZ.out HZ.out.size HB.out⟩
def cmp_isNaN_int.f (a0 : Int) : Option (Bool) := some (a0 != a0)
set_option maxHeartbeats 8000000 in
set_option maxRecDepth 100000 in
theorem cmp_isNaN_int.calls (a0 : Int) (r : Bool) (w : World) (h : cmp_isNaN_int.f a0 = some r) :
  Calls Try.prog 103 #[.int .i64 a0] w fun e w' => e = .returned (.bool r) ∧ Drawn0 w w' := by
 have H : (some (a0 != a0)) = some r := h
 clear h
 obtain rfl := Option.some.inj H
 go_enter Try.func103, Try.ntmps103
 go_wp2
 go_ret
 exact ⟨by first | rfl | (simp; done) | (simp [*]; done), by repeat (first | exact Drawn0.refl _ | apply Drawn0.step)⟩
def cmp_Compare_int.f (a0 : Int) (a1 : Int) : Option (Int) := (cmp_isNaN_int.f a0).bind fun t327 => ((cmp_isNaN_int.f a1).bind fun t328 => (if t327 = true then (if t328 = true then (some 0) else (some (-1))) else (if t328 = true then (some 1) else (if a0 < a1 then (some (-1)) else (if a0 > a1 then (some 1) else (some 0))))))
set_option maxHeartbeats 8000000 in
set_option maxRecDepth 100000 in
theorem cmp_Compare_int.calls (a0 : Int) (a1 : Int) (r : Int) (w : World) (h : cmp_Compare_int.f a0 a1 = some r) :
  Calls Try.prog 80 #[.int .i64 a0, .int .i64 a1] w fun e w' => e = .returned (.int .i64 r) ∧ Drawn0 w w' := by
 have H : ((cmp_isNaN_int.f a0).bind fun t327 => ((cmp_isNaN_int.f a1).bind fun t328 => (if t327 = true then (if t328 = true then (some 0) else (some (-1))) else (if t328 = true then (some 1) else (if a0 < a1 then (some (-1)) else (if a0 > a1 then (some 1) else (some 0))))))) = some r := h
 clear h
 replace H := Option.bind_eq_some_iff.mp H
 obtain ⟨t327, A30, H⟩ := H
 replace H : ((cmp_isNaN_int.f a1).bind fun t328 => (if t327 = true then (if t328 = true then (some 0) else (some (-1))) else (if t328 = true then (some 1) else (if a0 < a1 then (some (-1)) else (if a0 > a1 then (some 1) else (some 0)))))) = some r := H
 have A3 := Am A30
 clear A30
 replace H := Option.bind_eq_some_iff.mp H
 obtain ⟨t328, A40, H⟩ := H
 replace H : (if t327 = true then (if t328 = true then (some 0) else (some (-1))) else (if t328 = true then (some 1) else (if a0 < a1 then (some (-1)) else (if a0 > a1 then (some 1) else (some 0))))) = some r := H
 have A4 := Am A40
 clear A40
 by_cases c5 : t327 = true
 ·subst c5
  have H1 : (if t328 = true then (some 0) else (some (-1))) = some r := by rw [if_pos rfl] at H; exact H
  clear H
  have H := H1
  clear H1
  by_cases c6 : t328 = true
  ·subst c6
   have H1 : (some 0) = some r := by rw [if_pos rfl] at H; exact H
   clear H
   have H := H1
   clear H1
   obtain rfl := Option.some.inj H
   go_enter Try.func80, Try.ntmps80
   go_wp2_with (first | ((refine Gc (f := 103) rfl ?_); refine goesL_ (some 8) rfl rfl Try.func103 (by kernel_rfl) rfl #[.int .i64 a0] rfl (by first | rfl | (simp only [List.map_toArray, List.map_cons, List.map_nil]; first | done | rfl)) ?_; (with_reducible refine (cmp_isNaN_int.calls a0 true _ A3.out).mono ?_); rintro e w' ⟨rfl, ⟨nd, rfl⟩⟩; refine ⟨_, rfl, ?_⟩) | ((refine Gc (f := 103) rfl ?_); refine goesL_ (some 10) rfl rfl Try.func103 (by kernel_rfl) rfl #[.int .i64 a1] rfl (by first | rfl | (simp only [List.map_toArray, List.map_cons, List.map_nil]; first | done | rfl)) ?_; (with_reducible refine (cmp_isNaN_int.calls a1 true _ A4.out).mono ?_); rintro e w' ⟨rfl, ⟨nd, rfl⟩⟩; refine ⟨_, rfl, ?_⟩))
   go_ret
   exact ⟨by first | rfl | (simp; done) | (simp [*]; done), by repeat (first | exact Drawn0.refl _ | apply Drawn0.step)⟩
  ·replace c6 := Bool.eq_false_iff.mpr c6
   subst c6
   have H1 : (some (-1)) = some r := by rw [if_neg (show ¬ (false = true) by decide)] at H; exact H
   clear H
   have H := H1
   clear H1
   obtain rfl := Option.some.inj H
   go_enter Try.func80, Try.ntmps80
   go_wp2_with (first | ((refine Gc (f := 103) rfl ?_); refine goesL_ (some 8) rfl rfl Try.func103 (by kernel_rfl) rfl #[.int .i64 a0] rfl (by first | rfl | (simp only [List.map_toArray, List.map_cons, List.map_nil]; first | done | rfl)) ?_; (with_reducible refine (cmp_isNaN_int.calls a0 true _ A3.out).mono ?_); rintro e w' ⟨rfl, ⟨nd, rfl⟩⟩; refine ⟨_, rfl, ?_⟩) | ((refine Gc (f := 103) rfl ?_); refine goesL_ (some 10) rfl rfl Try.func103 (by kernel_rfl) rfl #[.int .i64 a1] rfl (by first | rfl | (simp only [List.map_toArray, List.map_cons, List.map_nil]; first | done | rfl)) ?_; (with_reducible refine (cmp_isNaN_int.calls a1 false _ A4.out).mono ?_); rintro e w' ⟨rfl, ⟨nd, rfl⟩⟩; refine ⟨_, rfl, ?_⟩))
   go_ret
   exact ⟨by first | rfl | (simp; done) | (simp [*]; done), by repeat (first | exact Drawn0.refl _ | apply Drawn0.step)⟩
 ·replace c5 := Bool.eq_false_iff.mpr c5
  subst c5
  have H1 : (if t328 = true then (some 1) else (if a0 < a1 then (some (-1)) else (if a0 > a1 then (some 1) else (some 0)))) = some r := by rw [if_neg (show ¬ (false = true) by decide)] at H; exact H
  clear H
  have H := H1
  clear H1
  by_cases c7 : t328 = true
  ·subst c7
   have H1 : (some 1) = some r := by rw [if_pos rfl] at H; exact H
   clear H
   have H := H1
   clear H1
   obtain rfl := Option.some.inj H
   go_enter Try.func80, Try.ntmps80
   go_wp2_with (first | ((refine Gc (f := 103) rfl ?_); refine goesL_ (some 8) rfl rfl Try.func103 (by kernel_rfl) rfl #[.int .i64 a0] rfl (by first | rfl | (simp only [List.map_toArray, List.map_cons, List.map_nil]; first | done | rfl)) ?_; (with_reducible refine (cmp_isNaN_int.calls a0 false _ A3.out).mono ?_); rintro e w' ⟨rfl, ⟨nd, rfl⟩⟩; refine ⟨_, rfl, ?_⟩) | ((refine Gc (f := 103) rfl ?_); refine goesL_ (some 10) rfl rfl Try.func103 (by kernel_rfl) rfl #[.int .i64 a1] rfl (by first | rfl | (simp only [List.map_toArray, List.map_cons, List.map_nil]; first | done | rfl)) ?_; (with_reducible refine (cmp_isNaN_int.calls a1 true _ A4.out).mono ?_); rintro e w' ⟨rfl, ⟨nd, rfl⟩⟩; refine ⟨_, rfl, ?_⟩))
   go_ret
   exact ⟨by first | rfl | (simp; done) | (simp [*]; done), by repeat (first | exact Drawn0.refl _ | apply Drawn0.step)⟩
  ·replace c7 := Bool.eq_false_iff.mpr c7
   subst c7
   have H1 : (if a0 < a1 then (some (-1)) else (if a0 > a1 then (some 1) else (some 0))) = some r := by rw [if_neg (show ¬ (false = true) by decide)] at H; exact H
   clear H
   have H := H1
   clear H1
   by_cases c8 : a0 < a1
   ·rw [if_pos c8] at H
    have c8b0 : decide (a0 < a1) = true := decide_eq_true c8
    clear c8
    obtain rfl := Option.some.inj H
    go_enter Try.func80, Try.ntmps80
    go_wp2_with (first | ((refine Gc (f := 103) rfl ?_); refine goesL_ (some 8) rfl rfl Try.func103 (by kernel_rfl) rfl #[.int .i64 a0] rfl (by first | rfl | (simp only [List.map_toArray, List.map_cons, List.map_nil]; first | done | rfl)) ?_; (with_reducible refine (cmp_isNaN_int.calls a0 false _ A3.out).mono ?_); rintro e w' ⟨rfl, ⟨nd, rfl⟩⟩; refine ⟨_, rfl, ?_⟩) | ((refine Gc (f := 103) rfl ?_); refine goesL_ (some 10) rfl rfl Try.func103 (by kernel_rfl) rfl #[.int .i64 a1] rfl (by first | rfl | (simp only [List.map_toArray, List.map_cons, List.map_nil]; first | done | rfl)) ?_; (with_reducible refine (cmp_isNaN_int.calls a1 false _ A4.out).mono ?_); rintro e w' ⟨rfl, ⟨nd, rfl⟩⟩; refine ⟨_, rfl, ?_⟩))
    go_ret
    exact ⟨by first | rfl | (simp; done) | (simp [*]; done), by repeat (first | exact Drawn0.refl _ | apply Drawn0.step)⟩
   ·rw [if_neg c8] at H
    have c8b0 : decide (a0 < a1) = false := decide_eq_false c8
    clear c8
    by_cases c9 : a0 > a1
    ·rw [if_pos c9] at H
     have c9b0 : decide (a1 < a0) = true := decide_eq_true c9
     clear c9
     obtain rfl := Option.some.inj H
     go_enter Try.func80, Try.ntmps80
     go_wp2_with (first | ((refine Gc (f := 103) rfl ?_); refine goesL_ (some 8) rfl rfl Try.func103 (by kernel_rfl) rfl #[.int .i64 a0] rfl (by first | rfl | (simp only [List.map_toArray, List.map_cons, List.map_nil]; first | done | rfl)) ?_; (with_reducible refine (cmp_isNaN_int.calls a0 false _ A3.out).mono ?_); rintro e w' ⟨rfl, ⟨nd, rfl⟩⟩; refine ⟨_, rfl, ?_⟩) | ((refine Gc (f := 103) rfl ?_); refine goesL_ (some 10) rfl rfl Try.func103 (by kernel_rfl) rfl #[.int .i64 a1] rfl (by first | rfl | (simp only [List.map_toArray, List.map_cons, List.map_nil]; first | done | rfl)) ?_; (with_reducible refine (cmp_isNaN_int.calls a1 false _ A4.out).mono ?_); rintro e w' ⟨rfl, ⟨nd, rfl⟩⟩; refine ⟨_, rfl, ?_⟩))
     go_ret
     exact ⟨by first | rfl | (simp; done) | (simp [*]; done), by repeat (first | exact Drawn0.refl _ | apply Drawn0.step)⟩
    ·rw [if_neg c9] at H
     have c9b0 : decide (a1 < a0) = false := decide_eq_false c9
     clear c9
     obtain rfl := Option.some.inj H
     go_enter Try.func80, Try.ntmps80
     go_wp2_with (first | ((refine Gc (f := 103) rfl ?_); refine goesL_ (some 8) rfl rfl Try.func103 (by kernel_rfl) rfl #[.int .i64 a0] rfl (by first | rfl | (simp only [List.map_toArray, List.map_cons, List.map_nil]; first | done | rfl)) ?_; (with_reducible refine (cmp_isNaN_int.calls a0 false _ A3.out).mono ?_); rintro e w' ⟨rfl, ⟨nd, rfl⟩⟩; refine ⟨_, rfl, ?_⟩) | ((refine Gc (f := 103) rfl ?_); refine goesL_ (some 10) rfl rfl Try.func103 (by kernel_rfl) rfl #[.int .i64 a1] rfl (by first | rfl | (simp only [List.map_toArray, List.map_cons, List.map_nil]; first | done | rfl)) ?_; (with_reducible refine (cmp_isNaN_int.calls a1 false _ A4.out).mono ?_); rintro e w' ⟨rfl, ⟨nd, rfl⟩⟩; refine ⟨_, rfl, ?_⟩))
     go_ret
     exact ⟨by first | rfl | (simp; done) | (simp [*]; done), by repeat (first | exact Drawn0.refl _ | apply Drawn0.step)⟩
def slices_Compare_int_int.l0 : Nat → List Int → List Int → List Int → Int → Int → Option (Int)
 | 0, _, _, _, _, _ => none
 | k + 1, x0, x1, x9, x10, x11 => if x11 < x10 then (if 0 ≤ x11 then (if x11 < (x9.length : Int) then (if x11 ≥ (x1.length : Int) then (some 1) else (if x11 < (x1.length : Int) then ((cmp_Compare_int.f (rd x9 x11) (rd x1 x11)).bind fun t331 => (if t331 = 0 then (slices_Compare_int_int.l0 k x0 x1 x9 x10 (wrap64 (x11 + 1))) else (some t331))) else (none))) else (none)) else (none)) else (if (x0.length : Int) < (x1.length : Int) then (some (-1)) else (some 0))
def slices_Compare_int_int.f (k : Nat) (l0 : List Int) (l1 : List Int) : Option (Int) := slices_Compare_int_int.l0 k l0 l1 l0 (l0.length : Int) 0
theorem slices_Compare_int_int.mono_l : ∀ k, (∀ y0 y1 y2 y3 y4, LeO (slices_Compare_int_int.l0 k y0 y1 y2 y3 y4) (slices_Compare_int_int.l0 (k + 1) y0 y1 y2 y3 y4))
 | 0 => fun _ _ _ _ _ r h => by simp [slices_Compare_int_int.l0] at h
 | k + 1 => by
  have ih0 := slices_Compare_int_int.mono_l k
  ·intro y0 y1 y2 y3 y4
   unfold slices_Compare_int_int.l0
   repeat' first
   | (with_reducible exact ih0 _ _ _ _ _)
   | (with_reducible exact LeO.refl _)
   | (with_reducible exact LeO.none _)
   | (with_reducible refine LeO.ite ?_ ?_)
   | (with_reducible refine LeO.bind ?_ (fun _ => ?_))
   | exact ih0 _ _ _ _ _
   | exact LeO.none _
   | refine LeO.ite ?_ ?_
   | refine LeO.bind ?_ (fun _ => ?_)
theorem slices_Compare_int_int.mono : ∀ a0 a1 k, LeO (slices_Compare_int_int.f k a0 a1) (slices_Compare_int_int.f (k + 1) a0 a1) := by
 intro a0 a1 k
 have ih0 := slices_Compare_int_int.mono_l k
 unfold slices_Compare_int_int.f
 repeat' first
   | (with_reducible exact ih0 _ _ _ _ _)
   | (with_reducible exact LeO.refl _)
   | (with_reducible exact LeO.none _)
   | (with_reducible refine LeO.ite ?_ ?_)
   | (with_reducible refine LeO.bind ?_ (fun _ => ?_))
   | exact ih0 _ _ _ _ _
   | exact LeO.none _
   | refine LeO.ite ?_ ?_
   | refine LeO.bind ?_ (fun _ => ?_)
set_option maxHeartbeats 8000000 in
set_option maxRecDepth 100000 in
theorem slices_Compare_int_int.calls (k : Nat) (A0 : Option Addr) (c0 : Nat) (l0 : List Int) (A1 : Option Addr) (c1 : Nat) (l1 : List Int) (r : Int) (w : World) (hr0 : Kd.C (Kd.int .i64) w A0 l0.length l0) (hc0 : l0.length ≤ c0) (hr1 : Kd.C (Kd.int .i64) w A1 l1.length l1) (hc1 : l1.length ≤ c1) (h : slices_Compare_int_int.f k l0 l1 = some r) :
  Calls Try.prog 39 #[.slice A0 l0.length c0, .slice A1 l1.length c1] w fun e w' => e = .returned (.int .i64 r) ∧ Drawn0 w w' := by
 have HR0 := Am hr0
 have HC0 := Am hc0
 clear hr0 hc0
 have HR1 := Am hr1
 have HC1 := Am hc1
 clear hr1 hc1
 have H : (slices_Compare_int_int.l0 k l0 l1 l0 (l0.length : Int) 0) = some r := h
 clear h
 have H' := Am H
 clear H
 go_enter Try.func39, Try.ntmps39
 go_wp2
 go_loopg [11] k (fun kq v11 w' => ∃ (x11_1 : Int), v11 = .int .i64 x11_1 ∧ Ad (slices_Compare_int_int.l0 kq l0 l1 l0 (l0.length : Int) x11_1 = some r) ∧ Ad (kq ≤ k) ∧ Drawn0 w w')
 case atStart => exact ⟨(0), (by first | rfl | (simp; done) | (simp [*]; done)), H', ⟨Nat.le_refl _⟩, by repeat (first | exact Drawn0.refl _ | apply Drawn0.step)⟩
 case round =>
  clear H'
  try clear c1
  try clear p2
  obtain ⟨x11_1, rfl, HA, HK1, ⟨m1, rfl⟩⟩ := hrel
  cases gk with
  | zero => exact absurd HA.out (by simp [slices_Compare_int_int.l0])
  | succ k1 =>
   have H := HA.out
   clear HA
   simp only [slices_Compare_int_int.l0] at H
   by_cases c3 : x11_1 < (l0.length : Int)
   ·rw [if_pos c3] at H
    have c3b0 : decide (x11_1 < (l0.length : Int)) = true := decide_eq_true c3
    clear c3
    by_cases c4 : 0 ≤ x11_1
    ·rw [if_pos c4] at H
     have c4b0 : decide (0 ≤ x11_1) = true := decide_eq_true c4
     clear c4
     by_cases c5 : x11_1 < (l0.length : Int)
     ·rw [if_pos c5] at H
      have c5b0 : decide (x11_1 < (l0.length : Int)) = true := decide_eq_true c5
      clear c5
      by_cases c6 : x11_1 ≥ (l1.length : Int)
      ·rw [if_pos c6] at H
       have c6b0 : decide ((l1.length : Int) ≤ x11_1) = true := decide_eq_true c6
       clear c6
       obtain rfl := Option.some.inj H
       have p329 : 0 ≤ (x11_1 : Int) := of_decide_eq_true (by assumption)
       have q329 : x11_1 < (l0.length : Int) := of_decide_eq_true (by assumption)
       obtain ⟨ad329, e329, hx329_0⟩ := Kd.at_int HR0.out x11_1 p329 q329
       cases e329
       replace p329 := eq_true p329
       replace q329 := eq_true q329
       go_wp2
       go_ret
       exact ⟨by first | rfl | (simp; done) | (simp [*]; done), by repeat (first | exact Drawn0.refl _ | apply Drawn0.step)⟩
      ·rw [if_neg c6] at H
       have c6b0 : decide ((l1.length : Int) ≤ x11_1) = false := decide_eq_false c6
       clear c6
       by_cases c7 : x11_1 < (l1.length : Int)
       ·rw [if_pos c7] at H
        have c7b0 : decide (x11_1 < (l1.length : Int)) = true := decide_eq_true c7
        clear c7
        replace H := Option.bind_eq_some_iff.mp H
        obtain ⟨t331, A80, H⟩ := H
        replace H : (if t331 = 0 then (slices_Compare_int_int.l0 k1 l0 l1 l0 (l0.length : Int) (wrap64 (x11_1 + 1))) else (some t331)) = some r := H
        have A8 := Am A80
        clear A80
        by_cases c9 : t331 = 0
        ·rw [if_pos c9] at H
         have c9b0 : (t331 == 0) = true := beq_iff_eq.mpr c9
         have c9b1 : (t331 != 0) = false := bne_eq_false_iff_eq.mpr c9
         clear c9
         have H' := Am H
         clear H
         have p329 : 0 ≤ (x11_1 : Int) := of_decide_eq_true (by assumption)
         have q329 : x11_1 < (l0.length : Int) := of_decide_eq_true (by assumption)
         obtain ⟨ad329, e329, hx329_0⟩ := Kd.at_int HR0.out x11_1 p329 q329
         cases e329
         replace p329 := eq_true p329
         replace q329 := eq_true q329
         have p330 : 0 ≤ (x11_1 : Int) := of_decide_eq_true (by assumption)
         have q330 : x11_1 < (l1.length : Int) := of_decide_eq_true (by assumption)
         obtain ⟨ad330, e330, hx330_0⟩ := Kd.at_int HR1.out x11_1 p330 q330
         cases e330
         replace p330 := eq_true p330
         replace q330 := eq_true q330
         go_wp2_with (first | ((refine Gc (f := 80) rfl ?_); refine goesL_ (some 26) rfl rfl Try.func80 (by kernel_rfl) rfl #[.int .i64 (rd l0 x11_1), .int .i64 (rd l1 x11_1)] rfl (by first | rfl | (simp only [List.map_toArray, List.map_cons, List.map_nil]; first | done | rfl)) ?_; (with_reducible refine (cmp_Compare_int.calls (rd l0 x11_1) (rd l1 x11_1) t331 _ A8.out).mono ?_); rintro e w' ⟨rfl, ⟨nd, rfl⟩⟩; refine ⟨_, rfl, ?_⟩))
         go_roundg k1
         case measure => have := HK1.out; omega
         case rel => exact ⟨(wrap64 (x11_1 + 1)), (by first | rfl | (simp; done) | (simp [*]; done)), H', ⟨by have := HK1.out; omega⟩, by repeat (first | exact Drawn0.refl _ | apply Drawn0.step)⟩
        ·rw [if_neg c9] at H
         have c9b0 : (t331 == 0) = false := beq_eq_false_iff_ne.mpr c9
         have c9b1 : (t331 != 0) = true := bne_iff_ne.mpr c9
         obtain rfl := Option.some.inj H
         have p329 : 0 ≤ (x11_1 : Int) := of_decide_eq_true (by assumption)
         have q329 : x11_1 < (l0.length : Int) := of_decide_eq_true (by assumption)
         obtain ⟨ad329, e329, hx329_0⟩ := Kd.at_int HR0.out x11_1 p329 q329
         cases e329
         replace p329 := eq_true p329
         replace q329 := eq_true q329
         have p330 : 0 ≤ (x11_1 : Int) := of_decide_eq_true (by assumption)
         have q330 : x11_1 < (l1.length : Int) := of_decide_eq_true (by assumption)
         obtain ⟨ad330, e330, hx330_0⟩ := Kd.at_int HR1.out x11_1 p330 q330
         cases e330
         replace p330 := eq_true p330
         replace q330 := eq_true q330
         go_wp2_with (first | ((refine Gc (f := 80) rfl ?_); refine goesL_ (some 26) rfl rfl Try.func80 (by kernel_rfl) rfl #[.int .i64 (rd l0 x11_1), .int .i64 (rd l1 x11_1)] rfl (by first | rfl | (simp only [List.map_toArray, List.map_cons, List.map_nil]; first | done | rfl)) ?_; (with_reducible refine (cmp_Compare_int.calls (rd l0 x11_1) (rd l1 x11_1) t331 _ A8.out).mono ?_); rintro e w' ⟨rfl, ⟨nd, rfl⟩⟩; refine ⟨_, rfl, ?_⟩))
         go_ret
         exact ⟨by first | rfl | (simp; done) | (simp [*]; done), by repeat (first | exact Drawn0.refl _ | apply Drawn0.step)⟩
       ·rw [if_neg c7] at H
        exact absurd H (by simp)
     ·rw [if_neg c5] at H
      exact absurd H (by simp)
    ·rw [if_neg c4] at H
     exact absurd H (by simp)
   ·rw [if_neg c3] at H
    have c3b0 : decide (x11_1 < (l0.length : Int)) = false := decide_eq_false c3
    clear c3
    by_cases c10 : (l0.length : Int) < (l1.length : Int)
    ·rw [if_pos c10] at H
     have c10b0 : decide ((l0.length : Int) < (l1.length : Int)) = true := decide_eq_true c10
     have c10b1 : decide (l0.length < l1.length) = true := decide_eq_true (Int.ofNat_lt.mp c10)
     clear c10
     obtain rfl := Option.some.inj H
     go_wp2
     go_ret
     exact ⟨by first | rfl | (simp; done) | (simp [*]; done), by repeat (first | exact Drawn0.refl _ | apply Drawn0.step)⟩
    ·rw [if_neg c10] at H
     have c10b0 : decide ((l0.length : Int) < (l1.length : Int)) = false := decide_eq_false c10
     have c10b1 : decide (l0.length < l1.length) = false := decide_eq_false (fun h => c10 (Int.ofNat_lt.mpr h))
     clear c10
     obtain rfl := Option.some.inj H
     go_wp2
     go_ret
     exact ⟨by first | rfl | (simp; done) | (simp [*]; done), by repeat (first | exact Drawn0.refl _ | apply Drawn0.step)⟩
end Go.Proofs.Ytilmcfdhijdhpaa.QFnExactGoodReplica
