-- Written by a program of this session (wip/mk.py) over the kit's print: Lean checks it.
import Derived.Test.YtilmcfdhijdhpaaQFnExactGoodReplicax0
import Derived.Test.YtilmcfdhijdhpaaQFnExactGoodReplicax1
import Derived.Test.YtilmcfdhijdhpaaQFnExactGoodReplicax2
import Derived.Test.YtilmcfdhijdhpaaQFnExactGoodReplicax3
import Derived.Test.YtilmcfdhijdhpaaQFnExactGoodReplicax4
import Derived.Test.YtilmcfdhijdhpaaQFnExactGoodReplicax5
namespace Go.Proofs.Ytilmcfdhijdhpaa.QFnExactGoodReplica
open Go.Proofs.YtilmcfdhijdhpaaW.PrintWords renaming below_alloc → Ba, pw_below_drewN → Bn, below_drew1 → Bd, below_set → Bs, below_size → Bz, below_step → Bt, gate_dst → Gd, box_event → Be, blk_alloc → Ka, blk_drewN → Kn, blk_drew → Ke, blk_below → Kb, blk_cell → Kc, blk_far → Kf, blk_frozen → Kz
open Go.Proofs.YtilmcfdhijdhpaaW.PrintWords.Aside0 renaming mk → Am
open Go.Proofs.YtilmcfdhijdhpaaW.PrintWords renaming Aside0 → Ad
open Go.RowKit Go.Proofs.YtilmcfdhijdhpaaW.PrintWords Go.Proofs.YtilmcfdhijdhpaaW.PrintLast Go.Proofs.YtilmcfdhijdhpaaW.PrintMore
attribute [local go_sem] max2_int min2_int max_two min_two max_three min_three max_four min_four   -- for this text's walks alone
open Go.Proofs.YtilmcfdhijdhpaaW.PrintWords.Kd renaming C_below → Cb
open Go.Proofs.YtilmcfdhijdhpaaW.PrintWords renaming below_then → Bh, blk_lt → Kl
set_option linter.unusedVariables false
set_option linter.unusedSimpArgs false
attribute [local go_sem high] eqA28
theorem spec_l8Lead.two {o : Option Bool} {t e : Option Bool} {r : Bool} (h : (o.bind fun b => if b = true then t else e) = some r) : ∃ b, Ad (o = some b) ∧ Ad ((if b = true then t else e) = some r) := by
 obtain ⟨b, h1, h2⟩ := Option.bind_eq_some_iff.1 h
 exact ⟨b, ⟨h1⟩, ⟨h2⟩⟩
theorem spec_l8Lead.load1 {P : Program} {o : Oper} {a : Act} {W : World} {g : Nat} {cs : Array Value} {t : TypeId} (hg : W.heap[g]? = some (.cells cs t (0, 0))) (n : Nat) (hn : cs.size = n) (ty : TypeId) (x : Operand) (ho : o.op = .load ty x)
  (hx : a.eval x = .pointer (some ⟨g, 0, none⟩)) (d : TypeDesc) (hu : P.underlying ty = some d) (hd : (match d with | .struct _ | .array _ _ => true | _ => false) = true) (hi : (P.info? ty).map (·.size) = some n) :
  (execOp a.eval o).run P W = .ok (.value (.agg cs)) W := by
 subst hn
 unfold execOp
 simp only [ho, hx, Instr.loadAt, Instr.sureAddr, Sem.run_bind, Sem.run_pure, Result.andThen_ok, run_loadVar_row W g t ty cs (0, 0) d hg hu hd hi]
theorem spec_l8Lead.two2 {o : Option Bool} {t e : Option Bool} {F : Bool → Option Bool} {r : Bool} (h : ((o.bind fun b => if b = true then t else e).bind F) = some r) : ∃ b, Ad (o = some b) ∧ Ad (((if b = true then t else e).bind F) = some r) := by
 cases o with
 | none => cases h
 | some b => exact ⟨b, ⟨rfl⟩, ⟨h⟩⟩
def spec_l8Lead.z9 (x : S77) : Option Bool := if x.f9.length = 0 then some true else some false
def spec_l8Lead.p1 (x : S77) : Option Bool := (spec_GoodCmd.f x.f4.f0 x.f4.f1 x.f4.f2 x.f4.f3 x.f4.f4).bind fun b => if b = true then spec_l8Lead.z9 x else some false
def spec_l8Lead.y4 (K : Nat) (x : S77) : Option Bool := spec_SameAttr.f K x.f5.f0 x.f5.f1 x.f6.f0 x.f6.f1
def spec_l8Lead.y3 (K : Nat) (x : S77) : Option Bool := if x.f7 = true then some false else spec_l8Lead.y4 K x
def spec_l8Lead.y2 (K : Nat) (x : S77) : Option Bool := if x.f9.length = 0 then spec_l8Lead.y3 K x else some false
def spec_l8Lead.p2 (K : Nat) (x : S77) : Option Bool := (spec_GoodCmd.f x.f4.f0 x.f4.f1 x.f4.f2 x.f4.f3 x.f4.f4).bind fun b => if b = true then spec_l8Lead.y2 K x else some false
def spec_l8Lead.u3 (x : S77) : Option Bool := if x.f7 = true then some false else if x.f9.length = x.f8.length then some true else some false
def spec_l8Lead.u2 (K : Nat) (x : S77) (o : Int × List Int) : Option Bool := (spec_SameAttr.f K x.f6.f0 x.f6.f1 o.1 o.2).bind fun b => if b = true then spec_l8Lead.u3 x else some false
def spec_l8Lead.u1 (K : Nat) (x : S77) (o : Int × List Int) : Option Bool := (spec_SameAttr.f K x.f5.f0 x.f5.f1 o.1 o.2).bind fun b => if b = true then spec_l8Lead.u2 K x o else some false
def spec_l8Lead.p3 (K : Nat) (x : S77) (o : Int × List Int) : Option Bool := if (x.f4.f0 == 0 && (x.f4.f1 == 0 && (x.f4.f2 == 0 && (x.f4.f3 == 0 && (x.f4.f4 == 0))))) = true then spec_l8Lead.u1 K x o else some false
def spec_l8Lead.s7 (K : Nat) (n : Int) (x : S77) : Option Bool := if x.f3 = 1 then spec_l8Lead.p1 x else if x.f3 = 2 then spec_l8Lead.p2 K x else if x.f3 = 3 then (spec_l3None.f n).bind fun o => spec_l8Lead.p3 K x o else some false
def spec_l8Lead.g (K : Nat) (n : Int) : List S39 → Option Bool
 | [] => some true
 | y :: ys => (spec_l4Row.f K n y.f0 y.f1 y.f2 y.f3.f0 y.f3.f1 y.f3.f2 y.f3.f3 y.f3.f4 y.f4.f0 y.f4.f1).bind fun b => if b = true then (if y.f2 = 3 then some false else spec_l8Lead.g K n ys) else some false
def spec_l8Lead.G (K : Nat) (n : Int) (x : S77) (b : Bool) : Option Bool := if b = true then spec_l8Lead.s7 K n x else some false
def spec_l8Lead.s6 (K : Nat) (n : Int) (x : S77) : Option Bool := (spec_l3Attr.f K n x.f6.f0 x.f6.f1).bind fun b => if b = true then (spec_l8Lead.g K n x.f9).bind (spec_l8Lead.G K n x) else some false
def spec_l8Lead.s5 (K : Nat) (n : Int) (x : S77) : Option Bool := (spec_l3Attr.f K n x.f5.f0 x.f5.f1).bind fun b => if b = true then spec_l8Lead.s6 K n x else some false
def spec_l8Lead.s4 (K : Nat) (n me : Int) (x : S77) : Option Bool := (spec_l1Has.f K x.f8 me).bind fun b => if b = true then spec_l8Lead.s5 K n x else some false
def spec_l8Lead.s3 (K : Nat) (n me : Int) (x : S77) : Option Bool := (spec_l1Rising.f K x.f8 0 (wrap64 (n - 1))).bind fun b => if b = true then spec_l8Lead.s4 K n me x else some false
def spec_l8Lead.s2 (K : Nat) (n me : Int) (x : S77) : Option Bool := (spec_l1In.f x.f2 0 9999).bind fun b => if b = true then spec_l8Lead.s3 K n me x else some false
def spec_l8Lead.f (K : Nat) (n me : Int) (x : S77) : Option Bool := (spec_l3Inst.f n x.f0 x.f1).bind fun b => if b = true then spec_l8Lead.s2 K n me x else some false
set_option maxHeartbeats 4000000 in
set_option maxRecDepth 100000 in
theorem spec_l8Lead.calls (K : Nat) (n me : Int) (x : S77) (A10 : Option Addr) (c10 : Nat) (A12 : Option Addr) (c12 : Nat) (A14 : Option Addr) (c14 : Nat) (A15 : Option Addr) (c15 : Nat) (r : Bool) (w : World) (h10 : Kd.C (Kd.int .i64) w A10 x.f5.f1.length x.f5.f1) (m10 : x.f5.f1.length ≤ c10) (h12 : Kd.C (Kd.int .i64) w A12 x.f6.f1.length x.f6.f1) (m12 : x.f6.f1.length ≤ c12) (h14 : Kd.C (Kd.int .i64) w A14 x.f8.length x.f8) (m14 : x.f8.length ≤ c14) (h15 : Kd.C k39 w A15 x.f9.length x.f9) (m15 : x.f9.length ≤ c15) (h : spec_l8Lead.f K n me x = some r) :
  Calls Try.prog 34 #[.int .i64 n, .int .i64 me, .agg #[.int .i64 x.f0, .int .i64 x.f1, .int .i64 x.f2, .int .i64 x.f3, .int .i64 x.f4.f0, .int .i64 x.f4.f1, .int .i64 x.f4.f2, .int .i64 x.f4.f3, .int .i64 x.f4.f4, .int .i64 x.f5.f0, .slice A10 x.f5.f1.length c10, .int .i64 x.f6.f0, .slice A12 x.f6.f1.length c12, .bool x.f7, .slice A14 x.f8.length c14, .slice A15 x.f9.length c15]] w fun e w' => e = .returned (.bool r) ∧ Below w.heap.size w w' := by
 have hu := Try.underlying77
 have hu2 := Try.underlying28
 have hu3 := Try.underlying33
 have hu4 := Try.underlying39
 have H10 := Am h10
 have H12 := Am h12
 have H14 := Am h14
 have H15 := Am h15
 have HI := Am h
 clear h h10 h12 h14 h15
 go_enter Try.func34, Try.ntmps34
 go_upto_region 1 with (fail)
 refine letC (fun W_ => ∃ gl : Nat, gl = w.heap.size ∧ Below w.heap.size w W_ ∧ W_.heap[gl]? = some (.cells #[.int .i64 x.f0, .int .i64 x.f1, .int .i64 x.f2, .int .i64 x.f3, .int .i64 x.f4.f0, .int .i64 x.f4.f1, .int .i64 x.f4.f2, .int .i64 x.f4.f3, .int .i64 x.f4.f4, .int .i64 x.f5.f0, .slice A10 x.f5.f1.length c10, .int .i64 x.f6.f0, .slice A12 x.f6.f1.length c12, .bool x.f7, .slice A14 x.f8.length c14, .slice A15 x.f9.length c15] 77 (0, 0))) ⟨_, rfl, Ba (Below.refl _ _) _, by simpa using blk_new w (.cells #[.int .i64 x.f0, .int .i64 x.f1, .int .i64 x.f2, .int .i64 x.f3, .int .i64 x.f4.f0, .int .i64 x.f4.f1, .int .i64 x.f4.f2, .int .i64 x.f4.f3, .int .i64 x.f4.f4, .int .i64 x.f5.f0, .slice A10 x.f5.f1.length c10, .int .i64 x.f6.f0, .slice A12 x.f6.f1.length c12, .bool x.f7, .slice A14 x.f8.length c14, .slice A15 x.f9.length c15] 77)⟩ ?_
 rintro W0 ⟨gl, e_gl, hb, x_gl⟩
 have HZ := Am hb
 have BL := Am x_gl
 have HB : Ad (Below W0.heap.size W0 W0) := ⟨Below.refl _ _⟩
 rw [← e_gl]
 clear hb x_gl e_gl
 obtain ⟨b, HF, HJ⟩ := spec_l8Lead.two HI.out
 clear HI
 have ql0 : W0.cell? ⟨gl, 0, none⟩ = some (.int .i64 x.f0) := (Kc (Kb BL.out HB.out) 0).trans rfl
 have ql1 : W0.cell? ⟨gl, 1, none⟩ = some (.int .i64 x.f1) := (Kc (Kb BL.out HB.out) 1).trans rfl
 go_wp2_with fail
 refine (spec_l3Inst.calls n x.f0 x.f1 b W0  HF.out).mono ?_
 rintro e W1 ⟨rfl, hd⟩
 have hb := hd.below
 replace HB := Am (Bh HB.out HB.out.size hb)
 clear hb hd HF ql0 ql1
 cases b with
 | false =>
  obtain rfl : false = r := Option.some.inj HJ.out
  clear HJ
  go_wp2
  go_ret
  exact ⟨rfl, Bh HZ.out HZ.out.size HB.out⟩
 | true =>
  have HI : Ad (spec_l8Lead.s2 K n me x = some r) := ⟨HJ.out⟩
  clear HJ
  obtain ⟨b, HF, HJ⟩ := spec_l8Lead.two HI.out
  clear HI
  have ql2 : W1.cell? ⟨gl, 2, none⟩ = some (.int .i64 x.f2) := (Kc (Kb BL.out HB.out) 2).trans rfl
  go_wp2_with fail
  refine (spec_l1In.calls x.f2 0 9999 b W1  HF.out).mono ?_
  rintro e W2 ⟨rfl, hd⟩
  have hb := hd.below
  replace HB := Am (Bh HB.out HB.out.size hb)
  clear hb hd HF ql2
  cases b with
  | false =>
   obtain rfl : false = r := Option.some.inj HJ.out
   clear HJ
   go_wp2
   go_ret
   exact ⟨rfl, Bh HZ.out HZ.out.size HB.out⟩
  | true =>
   have HI : Ad (spec_l8Lead.s3 K n me x = some r) := ⟨HJ.out⟩
   clear HJ
   obtain ⟨b, HF, HJ⟩ := spec_l8Lead.two HI.out
   clear HI
   have ql14 : W2.cell? ⟨gl, 14, none⟩ = some (.slice A14 x.f8.length c14) := (Kc (Kb BL.out HB.out) 14).trans rfl
   go_wp2_with fail
   refine (spec_l1Rising.calls K A14 c14 x.f8 0 (wrap64 (n - 1)) b W2 (Cb H14.out (Bh HZ.out HZ.out.size HB.out)) m14 HF.out).mono ?_
   rintro e W3 ⟨rfl, hd⟩
   have hb := hd.below
   replace HB := Am (Bh HB.out HB.out.size hb)
   clear hb hd HF ql14
   cases b with
   | false =>
    obtain rfl : false = r := Option.some.inj HJ.out
    clear HJ
    go_wp2
    go_ret
    exact ⟨rfl, Bh HZ.out HZ.out.size HB.out⟩
   | true =>
    have HI : Ad (spec_l8Lead.s4 K n me x = some r) := ⟨HJ.out⟩
    clear HJ
    obtain ⟨b, HF, HJ⟩ := spec_l8Lead.two HI.out
    clear HI
    have ql14 : W3.cell? ⟨gl, 14, none⟩ = some (.slice A14 x.f8.length c14) := (Kc (Kb BL.out HB.out) 14).trans rfl
    go_wp2_with fail
    refine (spec_l1Has.calls K A14 c14 x.f8 me b W3 (Cb H14.out (Bh HZ.out HZ.out.size HB.out)) m14 HF.out).mono ?_
    rintro e W4 ⟨rfl, hd⟩
    have hb := hd.below
    replace HB := Am (Bh HB.out HB.out.size hb)
    clear hb hd HF ql14
    cases b with
    | false =>
     obtain rfl : false = r := Option.some.inj HJ.out
     clear HJ
     go_wp2
     go_ret
     exact ⟨rfl, Bh HZ.out HZ.out.size HB.out⟩
    | true =>
     have HI : Ad (spec_l8Lead.s5 K n x = some r) := ⟨HJ.out⟩
     clear HJ
     obtain ⟨b, HF, HJ⟩ := spec_l8Lead.two HI.out
     clear HI
     have ql9 : W4.cell? ⟨gl, 9, none⟩ = some (.int .i64 x.f5.f0) := (Kc (Kb BL.out HB.out) 9).trans rfl
     have ql10 : W4.cell? ⟨gl, 10, none⟩ = some (.slice A10 x.f5.f1.length c10) := (Kc (Kb BL.out HB.out) 10).trans rfl
     go_wp2_with fail
     refine (spec_l3Attr.calls K n x.f5.f0 A10 c10 x.f5.f1 b W4 (Cb H10.out (Bh HZ.out HZ.out.size HB.out)) m10 HF.out).mono ?_
     rintro e W5 ⟨rfl, hb⟩
     replace HB := Am (Bh HB.out HB.out.size hb)
     clear hb HF ql9 ql10
     cases b with
     | false =>
      obtain rfl : false = r := Option.some.inj HJ.out
      clear HJ
      go_wp2
      go_ret
      exact ⟨rfl, Bh HZ.out HZ.out.size HB.out⟩
     | true =>
      have HI : Ad (spec_l8Lead.s6 K n x = some r) := ⟨HJ.out⟩
      clear HJ
      obtain ⟨b, HF, HJ⟩ := spec_l8Lead.two HI.out
      clear HI
      have ql11 : W5.cell? ⟨gl, 11, none⟩ = some (.int .i64 x.f6.f0) := (Kc (Kb BL.out HB.out) 11).trans rfl
      have ql12 : W5.cell? ⟨gl, 12, none⟩ = some (.slice A12 x.f6.f1.length c12) := (Kc (Kb BL.out HB.out) 12).trans rfl
      go_wp2_with fail
      refine (spec_l3Attr.calls K n x.f6.f0 A12 c12 x.f6.f1 b W5 (Cb H12.out (Bh HZ.out HZ.out.size HB.out)) m12 HF.out).mono ?_
      rintro e W6 ⟨rfl, hb⟩
      replace HB := Am (Bh HB.out HB.out.size hb)
      clear hb HF ql11 ql12
      cases b with
      | false =>
       obtain rfl : false = r := Option.some.inj HJ.out
       clear HJ
       go_wp2
       go_ret
       exact ⟨rfl, Bh HZ.out HZ.out.size HB.out⟩
      | true =>
       have HI : Ad ((spec_l8Lead.g K n x.f9).bind (spec_l8Lead.G K n x) = some r) := ⟨HJ.out⟩
       clear HJ
       have ql15 : W6.cell? ⟨gl, 15, none⟩ = some (.slice A15 x.f9.length c15) := (Kc (Kb BL.out HB.out) 15).trans rfl
       have hml : x.f9.length ≤ 9223372036854775807 := H15.out.2.1
       go_wp2
       clear ql15
       go_loopg [55] x.f9.length (fun gg v55 wr => ∃ i : Nat, i ≤ x.f9.length ∧ x.f9.length - i ≤ gg ∧ v55 = .int .i64 i ∧ Ad (Below W0.heap.size W0 wr) ∧ Ad ((spec_l8Lead.g K n (x.f9.drop i)).bind (spec_l8Lead.G K n x) = some r))
       case atStart => exact ⟨0, Nat.zero_le _, by omega, by first | rfl | simp, HB, ⟨by rw [List.drop_zero]; exact HI.out⟩⟩
       case round =>
        clear HB HI
        obtain ⟨i, hi, hgg, rfl, HB, HI⟩ := hrel
        by_cases hlt : i < x.f9.length
        ·have hltz : (i : Int) < (x.f9.length : Int) := by omega
         obtain ⟨ad2, A9, c9, e9, hx0, hx1, hx2, hx3, hx4, hx5, hx6, hx7, hx8, hx9, hl9, hi9⟩ := at_T39 (Cb H15.out (Bh HZ.out HZ.out.size HB.out)) (i : Int) (by omega) hltz
         subst e9
         simp only [Int.toNat_natCast] at hx0 hx1 hx2 hx3 hx4 hx5 hx6 hx7 hx8 hx9
         have he : x.f9.getD i z39 = rd_T39 x.f9 (i : Int) := by unfold rd_T39; rw [Int.toNat_natCast]
         have hI := HI.out
         rw [Mine.drop_at x.f9 z39 i hlt, he] at hI
         clear HI he
         generalize rd_T39 x.f9 (i : Int) = y at hx0 hx1 hx2 hx3 hx4 hx5 hx6 hx7 hx8 hx9 hI hl9 hi9
         have H9 := Am (And.intro hi9 hl9)
         have HI := Am hI
         clear hI hl9 hi9
         go_upto_region 6 with (fail)
         refine letC (fun W_ => ∃ gy : Nat, gy = wr.heap.size ∧ Below wr.heap.size wr W_ ∧ W_.heap[gy]? = some (.cells #[.int .i64 y.f0, .int .i64 y.f1, .int .i64 y.f2, .int .i64 y.f3.f0, .int .i64 y.f3.f1, .int .i64 y.f3.f2, .int .i64 y.f3.f3, .int .i64 y.f3.f4, .int .i64 y.f4.f0, .slice A9 y.f4.f1.length c9] 39 (0, 0))) ⟨_, rfl, Ba (Below.refl _ _) _, by simpa using blk_new wr (.cells #[.int .i64 y.f0, .int .i64 y.f1, .int .i64 y.f2, .int .i64 y.f3.f0, .int .i64 y.f3.f1, .int .i64 y.f3.f2, .int .i64 y.f3.f3, .int .i64 y.f3.f4, .int .i64 y.f4.f0, .slice A9 y.f4.f1.length c9] 39)⟩ ?_
         rintro W7 ⟨gy, e_gy, hb, x_gy⟩
         replace HB := Am (Bh HB.out HB.out.size hb)
         replace H9 := Am (And.intro (Cb H9.out.1 hb) H9.out.2)
         have BY := Am x_gy
         rw [← e_gy]
         clear hb x_gy e_gy hx0 hx1 hx2 hx3 hx4 hx5 hx6 hx7 hx8 hx9
         obtain ⟨b, HF, HJ⟩ := spec_l8Lead.two2 (show ((spec_l4Row.f K n y.f0 y.f1 y.f2 y.f3.f0 y.f3.f1 y.f3.f2 y.f3.f3 y.f3.f4 y.f4.f0 y.f4.f1).bind fun b => if b = true then (if y.f2 = 3 then some false else spec_l8Lead.g K n (x.f9.drop (i + 1))) else some false).bind (spec_l8Lead.G K n x) = some r from HI.out)
         clear HI
         go_wp2_with ((refine Gd (N := 60) rfl ?_); refine Kd.event_run rfl (spec_l8Lead.load1 BY.out 10 rfl 39 _ (by rfl) (by rfl) _ Try.underlying39 rfl (by kernel_rfl)) ?_)
         refine (spec_l4Row.calls K n y.f0 y.f1 y.f2 y.f3.f0 y.f3.f1 y.f3.f2 y.f3.f3 y.f3.f4 y.f4.f0 A9 c9 y.f4.f1 b W7 H9.out.1 H9.out.2 HF.out).mono ?_
         rintro e W8 ⟨rfl, hb⟩
         replace BY := Am (Kb BY.out hb)
         replace HB := Am (Bh HB.out HB.out.size hb)
         clear hb HF H9
         cases b with
         | false =>
          obtain rfl : false = r := Option.some.inj HJ.out
          clear HJ
          go_wp2
          go_ret
          exact ⟨rfl, Bh HZ.out HZ.out.size HB.out⟩
         | true =>
          have qy2 : W8.cell? ⟨gy, 2, none⟩ = some (.int .i64 y.f2) := (Kc BY.out 2).trans rfl
          by_cases h3 : y.f2 = 3
          ·skip
           have e2 : (y.f2 == 3) = true := beq_iff_eq.mpr h3
           have HI : Ad (some false = some r) := ⟨by have h_ := HJ.out; rw [if_pos rfl, if_pos h3] at h_; exact h_⟩
           clear HJ h3
           obtain rfl : false = r := Option.some.inj HI.out
           clear HI
           go_wp2
           go_ret
           exact ⟨rfl, Bh HZ.out HZ.out.size HB.out⟩
          ·skip
           have e2 : (y.f2 == 3) = false := beq_eq_false_iff_ne.mpr h3
           have HI : Ad ((spec_l8Lead.g K n (x.f9.drop (i + 1))).bind (spec_l8Lead.G K n x) = some r) := ⟨by have h_ := HJ.out; rw [if_pos rfl, if_neg h3] at h_; exact h_⟩
           clear HJ h3
           go_wp2
           go_roundg (x.f9.length - (i + 1))
           case measure => omega
           case rel => exact ⟨i + 1, by omega, by omega, by go_num, HB, HI⟩
        ·have hltz : ¬ (i : Int) < (x.f9.length : Int) := by omega
         have hI := HI.out
         rw [List.drop_eq_nil_of_le (by omega)] at hI
         have HI : Ad (spec_l8Lead.s7 K n x = some r) := ⟨hI⟩
         clear hI
         have ql3 : wr.cell? ⟨gl, 3, none⟩ = some (.int .i64 x.f3) := (Kc (Kb BL.out HB.out) 3).trans rfl
         by_cases p1 : x.f3 = 1
         ·skip
          replace HI : Ad (spec_l8Lead.p1 x = some r) := ⟨by have h_ := HI.out; unfold spec_l8Lead.s7 at h_; rw [if_pos p1] at h_; exact h_⟩
          have e1 : (x.f3 == 1) = true := beq_iff_eq.mpr p1
          obtain ⟨b, HF, HJ⟩ := spec_l8Lead.two HI.out
          clear HI
          have ql4 : wr.cell? ⟨gl, 4, none⟩ = some (.int .i64 x.f4.f0) := (Kc (Kb BL.out HB.out) 4).trans rfl
          have ql5 : wr.cell? ⟨gl, 5, none⟩ = some (.int .i64 x.f4.f1) := (Kc (Kb BL.out HB.out) 5).trans rfl
          have ql6 : wr.cell? ⟨gl, 6, none⟩ = some (.int .i64 x.f4.f2) := (Kc (Kb BL.out HB.out) 6).trans rfl
          have ql7 : wr.cell? ⟨gl, 7, none⟩ = some (.int .i64 x.f4.f3) := (Kc (Kb BL.out HB.out) 7).trans rfl
          have ql8 : wr.cell? ⟨gl, 8, none⟩ = some (.int .i64 x.f4.f4) := (Kc (Kb BL.out HB.out) 8).trans rfl
          go_wp2_with fail
          refine (spec_GoodCmd.calls x.f4.f0 x.f4.f1 x.f4.f2 x.f4.f3 x.f4.f4 b wr  HF.out).mono ?_
          rintro e W9 ⟨rfl, hb⟩
          replace HB := Am (Bh HB.out HB.out.size hb)
          clear hb HF ql3 ql4 ql5 ql6 ql7 ql8
          cases b with
          | false =>
           obtain rfl : false = r := Option.some.inj HJ.out
           clear HJ
           go_wp2
           go_ret
           exact ⟨rfl, Bh HZ.out HZ.out.size HB.out⟩
          | true =>
           have HI : Ad (spec_l8Lead.z9 x = some r) := ⟨HJ.out⟩
           clear HJ
           have ql15 : W9.cell? ⟨gl, 15, none⟩ = some (.slice A15 x.f9.length c15) := (Kc (Kb BL.out HB.out) 15).trans rfl
           by_cases z9 : x.f9.length = 0
           ·skip
            have e9 : ((x.f9.length : Int) == 0) = true := by rw [z9]; rfl
            replace HI : Ad (some true = some r) := ⟨by have h_ := HI.out; unfold spec_l8Lead.z9 at h_; rw [if_pos z9] at h_; exact h_⟩
            obtain rfl : true = r := Option.some.inj HI.out
            clear HI
            go_wp2
            go_ret
            exact ⟨rfl, Bh HZ.out HZ.out.size HB.out⟩
           ·skip
            replace HI : Ad (some false = some r) := ⟨by have h_ := HI.out; unfold spec_l8Lead.z9 at h_; rw [if_neg z9] at h_; exact h_⟩
            have e9 : ((x.f9.length : Int) == 0) = false := by rw [beq_eq_false_iff_ne]; omega
            obtain rfl : false = r := Option.some.inj HI.out
            clear HI
            go_wp2
            go_ret
            exact ⟨rfl, Bh HZ.out HZ.out.size HB.out⟩
         ·skip
          by_cases p2 : x.f3 = 2
          ·skip
           replace HI : Ad (spec_l8Lead.p2 K x = some r) := ⟨by have h_ := HI.out; unfold spec_l8Lead.s7 at h_; rw [if_neg p1, if_pos p2] at h_; exact h_⟩
           have e1 : (x.f3 == 1) = false := beq_eq_false_iff_ne.mpr p1
           have e2 : (x.f3 == 2) = true := beq_iff_eq.mpr p2
           obtain ⟨b, HF, HJ⟩ := spec_l8Lead.two HI.out
           clear HI
           have ql4 : wr.cell? ⟨gl, 4, none⟩ = some (.int .i64 x.f4.f0) := (Kc (Kb BL.out HB.out) 4).trans rfl
           have ql5 : wr.cell? ⟨gl, 5, none⟩ = some (.int .i64 x.f4.f1) := (Kc (Kb BL.out HB.out) 5).trans rfl
           have ql6 : wr.cell? ⟨gl, 6, none⟩ = some (.int .i64 x.f4.f2) := (Kc (Kb BL.out HB.out) 6).trans rfl
           have ql7 : wr.cell? ⟨gl, 7, none⟩ = some (.int .i64 x.f4.f3) := (Kc (Kb BL.out HB.out) 7).trans rfl
           have ql8 : wr.cell? ⟨gl, 8, none⟩ = some (.int .i64 x.f4.f4) := (Kc (Kb BL.out HB.out) 8).trans rfl
           go_wp2_with fail
           refine (spec_GoodCmd.calls x.f4.f0 x.f4.f1 x.f4.f2 x.f4.f3 x.f4.f4 b wr  HF.out).mono ?_
           rintro e W10 ⟨rfl, hb⟩
           replace HB := Am (Bh HB.out HB.out.size hb)
           clear hb HF ql3 ql4 ql5 ql6 ql7 ql8
           cases b with
           | false =>
            obtain rfl : false = r := Option.some.inj HJ.out
            clear HJ
            go_wp2
            go_ret
            exact ⟨rfl, Bh HZ.out HZ.out.size HB.out⟩
           | true =>
            have HI : Ad (spec_l8Lead.y2 K x = some r) := ⟨HJ.out⟩
            clear HJ
            by_cases z9 : x.f9.length = 0
            ·skip
             have e9 : ((x.f9.length : Int) == 0) = true := by rw [z9]; rfl
             replace HI : Ad (spec_l8Lead.y3 K x = some r) := ⟨by have h_ := HI.out; unfold spec_l8Lead.y2 at h_; rw [if_pos z9] at h_; exact h_⟩
             have ql15 : W10.cell? ⟨gl, 15, none⟩ = some (.slice A15 x.f9.length c15) := (Kc (Kb BL.out HB.out) 15).trans rfl
             have ql13 : W10.cell? ⟨gl, 13, none⟩ = some (.bool x.f7) := (Kc (Kb BL.out HB.out) 13).trans rfl
             by_cases h7 : x.f7 = true
             ·skip
              replace HI : Ad (some false = some r) := ⟨by have h_ := HI.out; unfold spec_l8Lead.y3 at h_; rw [if_pos h7] at h_; exact h_⟩
              rw [h7] at ql13
              clear h7
              obtain rfl : false = r := Option.some.inj HI.out
              clear HI
              go_wp2
              go_ret
              exact ⟨rfl, Bh HZ.out HZ.out.size HB.out⟩
             ·skip
              replace HI : Ad (spec_l8Lead.y4 K x = some r) := ⟨by have h_ := HI.out; unfold spec_l8Lead.y3 at h_; rw [if_neg h7] at h_; exact h_⟩
              have h7f : x.f7 = false := by simpa using h7
              rw [h7f] at ql13
              clear h7 h7f
              have hq := HI.out
              unfold spec_l8Lead.y4 at hq
              have HF := Am hq
              clear HI hq
              have ql9 : W10.cell? ⟨gl, 9, none⟩ = some (.int .i64 x.f5.f0) := (Kc (Kb BL.out HB.out) 9).trans rfl
              have ql10 : W10.cell? ⟨gl, 10, none⟩ = some (.slice A10 x.f5.f1.length c10) := (Kc (Kb BL.out HB.out) 10).trans rfl
              have ql11 : W10.cell? ⟨gl, 11, none⟩ = some (.int .i64 x.f6.f0) := (Kc (Kb BL.out HB.out) 11).trans rfl
              have ql12 : W10.cell? ⟨gl, 12, none⟩ = some (.slice A12 x.f6.f1.length c12) := (Kc (Kb BL.out HB.out) 12).trans rfl
              go_wp2_with fail
              refine (spec_SameAttr.calls K x.f5.f0 A10 c10 x.f5.f1 x.f6.f0 A12 c12 x.f6.f1 r W10 (Cb H10.out (Bh HZ.out HZ.out.size HB.out)) m10 (Cb H12.out (Bh HZ.out HZ.out.size HB.out)) m12 HF.out).mono ?_
              rintro e W11 ⟨rfl, hb⟩
              replace HB := Am (Bh HB.out HB.out.size hb)
              clear hb HF ql15 ql13 ql9 ql10 ql11 ql12
              go_wp2
              go_ret
              exact ⟨rfl, Bh HZ.out HZ.out.size HB.out⟩
            ·skip
             replace HI : Ad (some false = some r) := ⟨by have h_ := HI.out; unfold spec_l8Lead.y2 at h_; rw [if_neg z9] at h_; exact h_⟩
             have e9 : ((x.f9.length : Int) == 0) = false := by rw [beq_eq_false_iff_ne]; omega
             have ql15 : W10.cell? ⟨gl, 15, none⟩ = some (.slice A15 x.f9.length c15) := (Kc (Kb BL.out HB.out) 15).trans rfl
             obtain rfl : false = r := Option.some.inj HI.out
             clear HI
             go_wp2
             go_ret
             exact ⟨rfl, Bh HZ.out HZ.out.size HB.out⟩
          ·skip
           by_cases p3 : x.f3 = 3
           ·skip
            have HI2 : Ad (((spec_l3None.f n).bind fun o => spec_l8Lead.p3 K x o) = some r) := ⟨by have h_ := HI.out; unfold spec_l8Lead.s7 at h_; rw [if_neg p1, if_neg p2, if_pos p3] at h_; exact h_⟩
            have e1 : (x.f3 == 1) = false := beq_eq_false_iff_ne.mpr p1
            have e2 : (x.f3 == 2) = false := beq_eq_false_iff_ne.mpr p2
            have e3 : (x.f3 == 3) = true := beq_iff_eq.mpr p3
            obtain ⟨⟨o1, o2⟩, hq, hI⟩ := Option.bind_eq_some_iff.1 HI2.out
            have HF := Am hq
            have HI : Ad (spec_l8Lead.p3 K x (o1, o2) = some r) := ⟨hI⟩
            clear HI2 hq hI
            go_wp2_with fail
            refine (spec_l3None.calls n o1 o2 wr HF.out).mono ?_
            rintro e W12 ⟨v_, rfl, hR, hb⟩
            obtain ⟨Ao, co, rfl⟩ := Kd.R_slice hR
            have HO := Am (Kd.R_reads' hR).2
            clear hR
            replace HB := Am (Bh HB.out HB.out.size hb)
            clear hb HF ql3
            go_upto_region 16 with (fail)
            refine letC (fun W_ => ∃ go : Nat, go = W12.heap.size ∧ Below W12.heap.size W12 W_ ∧ W_.heap[go]? = some (.cells #[.int .i64 o1, .slice Ao o2.length co] 33 (0, 0))) ⟨_, rfl, Ba (Below.refl _ _) _, by simpa using blk_new W12 (.cells #[.int .i64 o1, .slice Ao o2.length co] 33)⟩ ?_
            rintro W13 ⟨go, e_go, hb, x_go⟩
            replace HO := Am (And.intro HO.out.1 (Cb HO.out.2 hb))
            have HD : Ad (Below W13.heap.size W13 W13) := ⟨Below.refl _ _⟩
            have BO := Am x_go
            replace HB := Am (Bh HB.out HB.out.size hb)
            rw [← e_go]
            clear hb x_go e_go
            by_cases hz : (x.f4.f0 == 0 && (x.f4.f1 == 0 && (x.f4.f2 == 0 && (x.f4.f3 == 0 && (x.f4.f4 == 0))))) = true
            ·skip
             replace HI : Ad (spec_l8Lead.u1 K x (o1, o2) = some r) := ⟨by have h_ := HI.out; unfold spec_l8Lead.p3 at h_; rw [if_pos hz] at h_; exact h_⟩
             have hz0 : (x.f4.f0 == 0 && (x.f4.f1 == 0 && (x.f4.f2 == 0 && (x.f4.f3 == 0 && (x.f4.f4 == 0))))) = true := hz
             clear hz
             obtain ⟨b, HF, HJ⟩ := spec_l8Lead.two HI.out
             clear HI
             have ql4 : W13.cell? ⟨gl, 4, none⟩ = some (.int .i64 x.f4.f0) := (Kc (Kb BL.out HB.out) 4).trans rfl
             have ql5 : W13.cell? ⟨gl, 5, none⟩ = some (.int .i64 x.f4.f1) := (Kc (Kb BL.out HB.out) 5).trans rfl
             have ql6 : W13.cell? ⟨gl, 6, none⟩ = some (.int .i64 x.f4.f2) := (Kc (Kb BL.out HB.out) 6).trans rfl
             have ql7 : W13.cell? ⟨gl, 7, none⟩ = some (.int .i64 x.f4.f3) := (Kc (Kb BL.out HB.out) 7).trans rfl
             have ql8 : W13.cell? ⟨gl, 8, none⟩ = some (.int .i64 x.f4.f4) := (Kc (Kb BL.out HB.out) 8).trans rfl
             have ql9 : W13.cell? ⟨gl, 9, none⟩ = some (.int .i64 x.f5.f0) := (Kc (Kb BL.out HB.out) 9).trans rfl
             have ql10 : W13.cell? ⟨gl, 10, none⟩ = some (.slice A10 x.f5.f1.length c10) := (Kc (Kb BL.out HB.out) 10).trans rfl
             have qo0 : W13.cell? ⟨go, 0, none⟩ = some (.int .i64 o1) := (Kc BO.out 0).trans rfl
             have qo1 : W13.cell? ⟨go, 1, none⟩ = some (.slice Ao o2.length co) := (Kc BO.out 1).trans rfl
             go_wp2_with fail
             refine (spec_SameAttr.calls K x.f5.f0 A10 c10 x.f5.f1 o1 Ao co o2 b W13 (Cb H10.out (Bh HZ.out HZ.out.size HB.out)) m10 HO.out.2 HO.out.1 HF.out).mono ?_
             rintro e W14 ⟨rfl, hb⟩
             replace BO := Am (Kb BO.out hb)
             replace HO := Am (And.intro HO.out.1 (Cb HO.out.2 hb))
             replace HB := Am (Bh HB.out HB.out.size hb)
             clear hb HF ql4 ql5 ql6 ql7 ql8 ql9 ql10 qo0 qo1
             cases b with
             | false =>
              obtain rfl : false = r := Option.some.inj HJ.out
              clear HJ
              go_wp2
              go_ret
              exact ⟨rfl, Bh HZ.out HZ.out.size HB.out⟩
             | true =>
              have HI : Ad (spec_l8Lead.u2 K x (o1, o2) = some r) := ⟨HJ.out⟩
              clear HJ
              obtain ⟨b, HF, HJ⟩ := spec_l8Lead.two HI.out
              clear HI
              have ql11 : W14.cell? ⟨gl, 11, none⟩ = some (.int .i64 x.f6.f0) := (Kc (Kb BL.out HB.out) 11).trans rfl
              have ql12 : W14.cell? ⟨gl, 12, none⟩ = some (.slice A12 x.f6.f1.length c12) := (Kc (Kb BL.out HB.out) 12).trans rfl
              have qo0 : W14.cell? ⟨go, 0, none⟩ = some (.int .i64 o1) := (Kc BO.out 0).trans rfl
              have qo1 : W14.cell? ⟨go, 1, none⟩ = some (.slice Ao o2.length co) := (Kc BO.out 1).trans rfl
              go_wp2_with fail
              refine (spec_SameAttr.calls K x.f6.f0 A12 c12 x.f6.f1 o1 Ao co o2 b W14 (Cb H12.out (Bh HZ.out HZ.out.size HB.out)) m12 HO.out.2 HO.out.1 HF.out).mono ?_
              rintro e W15 ⟨rfl, hb⟩
              replace BO := Am (Kb BO.out hb)
              replace HO := Am (And.intro HO.out.1 (Cb HO.out.2 hb))
              replace HB := Am (Bh HB.out HB.out.size hb)
              clear hb HF ql11 ql12 qo0 qo1
              cases b with
              | false =>
               obtain rfl : false = r := Option.some.inj HJ.out
               clear HJ
               go_wp2
               go_ret
               exact ⟨rfl, Bh HZ.out HZ.out.size HB.out⟩
              | true =>
               have HI : Ad (spec_l8Lead.u3 x = some r) := ⟨HJ.out⟩
               clear HJ
               have ql13 : W15.cell? ⟨gl, 13, none⟩ = some (.bool x.f7) := (Kc (Kb BL.out HB.out) 13).trans rfl
               by_cases h7 : x.f7 = true
               ·skip
                replace HI : Ad (some false = some r) := ⟨by have h_ := HI.out; unfold spec_l8Lead.u3 at h_; rw [if_pos h7] at h_; exact h_⟩
                rw [h7] at ql13
                clear h7
                obtain rfl : false = r := Option.some.inj HI.out
                clear HI
                go_wp2
                go_ret
                exact ⟨rfl, Bh HZ.out HZ.out.size HB.out⟩
               ·skip
                have h7f : x.f7 = false := by simpa using h7
                rw [h7f] at ql13
                have ql15 : W15.cell? ⟨gl, 15, none⟩ = some (.slice A15 x.f9.length c15) := (Kc (Kb BL.out HB.out) 15).trans rfl
                have ql14 : W15.cell? ⟨gl, 14, none⟩ = some (.slice A14 x.f8.length c14) := (Kc (Kb BL.out HB.out) 14).trans rfl
                by_cases hl : x.f9.length = x.f8.length
                ·skip
                 replace HI : Ad (some true = some r) := ⟨by have h_ := HI.out; unfold spec_l8Lead.u3 at h_; rw [if_neg h7, if_pos hl] at h_; exact h_⟩
                 have el : ((x.f9.length : Int) == (x.f8.length : Int)) = true := by rw [hl]; simp
                 clear h7 h7f hl
                 obtain rfl : true = r := Option.some.inj HI.out
                 clear HI
                 go_wp2
                 go_ret
                 exact ⟨rfl, Bh HZ.out HZ.out.size HB.out⟩
                ·skip
                 replace HI : Ad (some false = some r) := ⟨by have h_ := HI.out; unfold spec_l8Lead.u3 at h_; rw [if_neg h7, if_neg hl] at h_; exact h_⟩
                 have el : ((x.f9.length : Int) == (x.f8.length : Int)) = false := by rw [beq_eq_false_iff_ne]; omega
                 clear h7 h7f hl
                 obtain rfl : false = r := Option.some.inj HI.out
                 clear HI
                 go_wp2
                 go_ret
                 exact ⟨rfl, Bh HZ.out HZ.out.size HB.out⟩
            ·skip
             replace HI : Ad (some false = some r) := ⟨by have h_ := HI.out; unfold spec_l8Lead.p3 at h_; rw [if_neg hz] at h_; exact h_⟩
             have hz0 : (x.f4.f0 == 0 && (x.f4.f1 == 0 && (x.f4.f2 == 0 && (x.f4.f3 == 0 && (x.f4.f4 == 0))))) = false := by simpa using hz
             clear hz
             have ql4 : W13.cell? ⟨gl, 4, none⟩ = some (.int .i64 x.f4.f0) := (Kc (Kb BL.out HB.out) 4).trans rfl
             have ql5 : W13.cell? ⟨gl, 5, none⟩ = some (.int .i64 x.f4.f1) := (Kc (Kb BL.out HB.out) 5).trans rfl
             have ql6 : W13.cell? ⟨gl, 6, none⟩ = some (.int .i64 x.f4.f2) := (Kc (Kb BL.out HB.out) 6).trans rfl
             have ql7 : W13.cell? ⟨gl, 7, none⟩ = some (.int .i64 x.f4.f3) := (Kc (Kb BL.out HB.out) 7).trans rfl
             have ql8 : W13.cell? ⟨gl, 8, none⟩ = some (.int .i64 x.f4.f4) := (Kc (Kb BL.out HB.out) 8).trans rfl
             obtain rfl : false = r := Option.some.inj HI.out
             clear HI
             go_wp2
             all_goals go_ret
             all_goals exact ⟨rfl, Bh HZ.out HZ.out.size HB.out⟩
           ·skip
            replace HI : Ad (some false = some r) := ⟨by have h_ := HI.out; unfold spec_l8Lead.s7 at h_; rw [if_neg p1, if_neg p2, if_neg p3] at h_; exact h_⟩
            have e1 : (x.f3 == 1) = false := beq_eq_false_iff_ne.mpr p1
            have e2 : (x.f3 == 2) = false := beq_eq_false_iff_ne.mpr p2
            have e3 : (x.f3 == 3) = false := beq_eq_false_iff_ne.mpr p3
            obtain rfl : false = r := Option.some.inj HI.out
            clear HI
            go_wp2
            go_ret
            exact ⟨rfl, Bh HZ.out HZ.out.size HB.out⟩
attribute [local go_sem high] eqA28
theorem spec_GoodReplica.two {o : Option Bool} {t e : Option Bool} {r : Bool} (h : (o.bind fun b => if b = true then t else e) = some r) : ∃ b, Ad (o = some b) ∧ Ad ((if b = true then t else e) = some r) := by
 obtain ⟨b, h1, h2⟩ := Option.bind_eq_some_iff.1 h
 exact ⟨b, ⟨h1⟩, ⟨h2⟩⟩
theorem spec_GoodReplica.load1 {P : Program} {o : Oper} {a : Act} {W : World} {g : Nat} {cs : Array Value} {t : TypeId} (hg : W.heap[g]? = some (.cells cs t (0, 0))) (n : Nat) (hn : cs.size = n) (ty : TypeId) (x : Operand) (ho : o.op = .load ty x)
  (hx : a.eval x = .pointer (some ⟨g, 0, none⟩)) (d : TypeDesc) (hu : P.underlying ty = some d) (hd : (match d with | .struct _ | .array _ _ => true | _ => false) = true) (hi : (P.info? ty).map (·.size) = some n) :
  (execOp a.eval o).run P W = .ok (.value (.agg cs)) W := by
 subst hn
 unfold execOp
 simp only [ho, hx, Instr.loadAt, Instr.sureAddr, Sem.run_bind, Sem.run_pure, Result.andThen_ok, run_loadVar_row W g t ty cs (0, 0) d hg hu hd hi]
def spec_GoodReplica.Cs (W : World) (b : Nat) : Nat → List Value → Prop
 | _, [] => True
 | o, v :: vs => W.cell? ⟨b, o, none⟩ = some v ∧ spec_GoodReplica.Cs W b (o + 1) vs
theorem spec_GoodReplica.cs_at {W : World} {b : Nat} : ∀ (cs : List Value) (o : Nat), spec_GoodReplica.Cs W b o cs → ∀ j v, cs[j]? = some v → W.cell? ⟨b, o + j, none⟩ = some v
 | [], _, _, j, v, h => by simp at h
 | u :: us, o, hc, 0, v, h => by
  obtain rfl : u = v := by simpa using h
  exact hc.1
 | u :: us, o, hc, j + 1, v, h => by rw [show o + (j + 1) = o + 1 + j by omega]; exact spec_GoodReplica.cs_at us (o + 1) hc.2 j v (by simpa using h)
theorem spec_GoodReplica.spot {W : World} {q : Addr} {v : Value} (h : W.cell? q = some v) : q = ⟨q.block, q.off, none⟩ := by
 obtain ⟨b, o, s⟩ := q
 cases s with
 | none => rfl
 | some s => unfold World.cell? at h; split at h <;> simp at h
theorem spec_GoodReplica.mid {P : Program} {o : Oper} {a : Act} {W : World} {q : Addr} {v : Value} {cs : List Value} (hc : spec_GoodReplica.Cs W q.block q.off (v :: cs)) (h0 : W.cell? q = some v) (n : Nat) (hn : (v :: cs).length = n) (ty : TypeId) (x : Operand) (ho : o.op = .load ty x)
  (hx : a.eval x = .pointer (some q)) (d : TypeDesc) (hu : P.underlying ty = some d) (hd : d.isRow = true) (hi : (P.info? ty).map (·.size) = some n) :
  (execOp a.eval o).run P W = .ok (.value (.agg (v :: cs).toArray)) W := by
 subst hn
 have hq := spec_GoodReplica.spot h0
 unfold execOp
 rw [hq] at hx
 simp only [ho, hx]
 have := run_loadAt_mid (P := P) W q.block q.off ty (v :: cs) d (spec_GoodReplica.cs_at _ _ hc) hu hd hi
 simp only [Sem.run_bind, this, Result.andThen_ok, Sem.run_pure]
def spec_GoodReplica.nx (K : Nat) (p : Option (Int × Int)) (x : S77) (t : Option Bool) : Option Bool := match p with
 | none => t
 | some q => if x.f0 < q.1 then some false else if q.1 = x.f0 then (if x.f1 ≤ q.2 then some false else t) else t
def spec_GoodReplica.o (K : Nat) (n me : Int) : Option (Int × Int) → List S77 → Option Bool
 | _, [] => some true
 | p, x :: xs => (spec_l8Lead.f K n me x).bind fun b => if b = true then spec_GoodReplica.nx K p x (spec_GoodReplica.o K n me (some (x.f0, x.f1)) xs) else some false
def spec_GoodReplica.s2 (K : Nat) (me n : Int) (l2 : List S77) : Option Bool := (spec_l1In.f me 0 (wrap64 (n - 1))).bind fun b => if b = true then spec_GoodReplica.o K n me none l2 else some false
def spec_GoodReplica.f (K : Nat) (me n : Int) (l1 : List (List S39)) (l2 : List S77) : Option Bool := (spec_GoodTable.f K n l1).bind fun b => if b = true then spec_GoodReplica.s2 K me n l2 else some false
def spec_GoodReplica.pv (l : List S77) (i : Nat) : Option (Int × Int) := if i = 0 then none else some ((l.getD (i - 1) z77).f0, (l.getD (i - 1) z77).f1)
theorem spec_GoodReplica.pv0 (l : List S77) : spec_GoodReplica.pv l 0 = none := rfl
theorem spec_GoodReplica.pvs (l : List S77) (i : Nat) : spec_GoodReplica.pv l (i + 1) = some ((l.getD i z77).f0, (l.getD i z77).f1) := rfl
set_option maxHeartbeats 4000000 in
set_option maxRecDepth 100000 in
theorem spec_GoodReplica.calls (K : Nat) (me n : Int) (A1 : Option Addr) (c1 : Nat) (l1 : List (List S39)) (A2 : Option Addr) (c2 : Nat) (l2 : List S77) (r : Bool) (w : World) (hr1 : Kd.C (Kd.slice 39 k39) w A1 l1.length l1) (hc1 : l1.length ≤ c1) (hr2 : Kd.C k77 w A2 l2.length l2) (hc2 : l2.length ≤ c2) (h : spec_GoodReplica.f K me n l1 l2 = some r) :
  Calls Try.prog 13 #[.agg #[.int .i64 me, .int .i64 n, .slice A1 l1.length c1, .slice A2 l2.length c2]] w fun e w' => e = .returned (.bool r) ∧ Below w.heap.size w w' := by
 have hu := Try.underlying77
 have hu2 := Try.underlying26
 have hu3 := Try.underlying53
 have H1 := Am hr1
 have H2 := Am hr2
 have HI := Am h
 clear hr1 hr2 h
 go_enter Try.func13, Try.ntmps13
 go_upto_region 1 with (fail)
 refine letC (fun W_ => ∃ gr : Nat, gr = w.heap.size ∧ Below w.heap.size w W_ ∧ W_.heap[gr]? = some (.cells #[.int .i64 me, .int .i64 n, .slice A1 l1.length c1, .slice A2 l2.length c2] 53 (0, 0))) ⟨_, rfl, Ba (Below.refl _ _) _, by simpa using blk_new w (.cells #[.int .i64 me, .int .i64 n, .slice A1 l1.length c1, .slice A2 l2.length c2] 53)⟩ ?_
 rintro W0 ⟨gr, e_gr, hb, x_gr⟩
 have HZ := Am hb
 have BR := Am x_gr
 have HB : Ad (Below W0.heap.size W0 W0) := ⟨Below.refl _ _⟩
 rw [← e_gr]
 clear hb x_gr e_gr
 obtain ⟨b, HF, HJ⟩ := spec_GoodReplica.two HI.out
 clear HI
 have qr1 : W0.cell? ⟨gr, 1, none⟩ = some (.int .i64 n) := (Kc (Kb BR.out HB.out) 1).trans rfl
 have qr2 : W0.cell? ⟨gr, 2, none⟩ = some (.slice A1 l1.length c1) := (Kc (Kb BR.out HB.out) 2).trans rfl
 go_wp2_with fail
 refine (spec_GoodTable.calls K n A1 c1 l1 b W0 (Cb H1.out (Bh HZ.out HZ.out.size HB.out)) hc1 HF.out).mono ?_
 rintro e W1 ⟨rfl, hb⟩
 replace HB := Am (Bh HB.out HB.out.size hb)
 clear hb HF qr1 qr2
 cases b with
 | false =>
  obtain rfl : false = r := Option.some.inj HJ.out
  clear HJ
  go_wp2
  go_ret
  exact ⟨rfl, Bh HZ.out HZ.out.size HB.out⟩
 | true =>
  have HI : Ad (spec_GoodReplica.s2 K me n l2 = some r) := ⟨HJ.out⟩
  clear HJ
  obtain ⟨b, HF, HJ⟩ := spec_GoodReplica.two HI.out
  clear HI
  have qr0 : W1.cell? ⟨gr, 0, none⟩ = some (.int .i64 me) := (Kc (Kb BR.out HB.out) 0).trans rfl
  have qr1 : W1.cell? ⟨gr, 1, none⟩ = some (.int .i64 n) := (Kc (Kb BR.out HB.out) 1).trans rfl
  go_wp2_with fail
  refine (spec_l1In.calls me 0 (wrap64 (n - 1)) b W1  HF.out).mono ?_
  rintro e W2 ⟨rfl, hd⟩
  have hb := hd.below
  replace HB := Am (Bh HB.out HB.out.size hb)
  clear hb hd HF qr0 qr1
  cases b with
  | false =>
   obtain rfl : false = r := Option.some.inj HJ.out
   clear HJ
   go_wp2
   go_ret
   exact ⟨rfl, Bh HZ.out HZ.out.size HB.out⟩
  | true =>
   have HI : Ad (spec_GoodReplica.o K n me none l2 = some r) := ⟨HJ.out⟩
   clear HJ
   have qr3 : W2.cell? ⟨gr, 3, none⟩ = some (.slice A2 l2.length c2) := (Kc (Kb BR.out HB.out) 3).trans rfl
   have hml : l2.length ≤ 9223372036854775807 := H2.out.2.1
   go_wp2
   clear qr3
   go_loopg [23] l2.length (fun gg v wr => ∃ i : Nat, i ≤ l2.length ∧ l2.length - i ≤ gg ∧ v = .int .i64 i ∧ Ad (Below W0.heap.size W0 wr) ∧ Ad (spec_GoodReplica.o K n me (spec_GoodReplica.pv l2 i) (l2.drop i) = some r))
   case atStart => exact ⟨0, Nat.zero_le _, by omega, by first | rfl | simp, HB, ⟨by rw [List.drop_zero]; exact HI.out⟩⟩
   case round =>
    clear HB HI
    obtain ⟨i, hi, hgg, rfl, HB, HI⟩ := hrel
    by_cases hlt : i < l2.length
    ·have hltz : (i : Int) < (l2.length : Int) := by omega
     obtain ⟨ad, A10, c10, A12, c12, A14, c14, A15, c15, e9, hx0, hx1, hx2, hx3, hx4, hx5, hx6, hx7, hx8, hx9, hx10, hx11, hx12, hx13, hx14, hx15, m10, h10, m12, h12, m14, h14, m15, h15⟩ := at_T77 (Cb H2.out (Bh HZ.out HZ.out.size HB.out)) (i : Int) (by omega) hltz
     subst e9
     simp only [Int.toNat_natCast] at hx0 hx1 hx2 hx3 hx4 hx5 hx6 hx7 hx8 hx9 hx10 hx11 hx12 hx13 hx14 hx15
     have he : l2.getD i z77 = rd_T77 l2 (i : Int) := by unfold rd_T77; rw [Int.toNat_natCast]
     have hI := HI.out
     rw [Mine.drop_at l2 z77 i hlt, he] at hI
     have hpv := spec_GoodReplica.pvs l2 i
     rw [he] at hpv
     clear HI he
     generalize rd_T77 l2 (i : Int) = x at hx0 hx1 hx2 hx3 hx4 hx5 hx6 hx7 hx8 hx9 hx10 hx11 hx12 hx13 hx14 hx15 hI hpv m10 h10 m12 h12 m14 h14 m15 h15
     have HPV := Am hpv
     have HI := Am hI
     have H10 := Am h10
     have H12 := Am h12
     have H14 := Am h14
     have H15 := Am h15
     have HCS : Ad (spec_GoodReplica.Cs wr (ad.add (i * 16)).block (ad.add (i * 16)).off [.int .i64 x.f0, .int .i64 x.f1, .int .i64 x.f2, .int .i64 x.f3, .int .i64 x.f4.f0, .int .i64 x.f4.f1, .int .i64 x.f4.f2, .int .i64 x.f4.f3, .int .i64 x.f4.f4, .int .i64 x.f5.f0, .slice A10 x.f5.f1.length c10, .int .i64 x.f6.f0, .slice A12 x.f6.f1.length c12, .bool x.f7, .slice A14 x.f8.length c14, .slice A15 x.f9.length c15]) := ⟨(by rw [← spec_GoodReplica.spot hx0]; exact hx0), hx1, hx2, hx3, hx4, hx5, hx6, hx7, hx8, hx9, hx10, hx11, hx12, hx13, hx14, hx15, trivial⟩
     have HX0 := Am hx0
     clear hI hpv hx0 hx1 hx2 hx3 hx4 hx5 hx6 hx7 hx8 hx9 hx10 hx11 hx12 hx13 hx14 hx15 h10 h12 h14 h15
     go_upto_region 6 with ((refine Gd (N := 27) rfl ?_); refine Kd.event_run rfl (spec_GoodReplica.mid HCS.out HX0.out 16 rfl 77 _ (by rfl) (by rfl) _ Try.underlying77 rfl (by kernel_rfl)) ?_)
     refine letC (fun W_ => ∃ gl : Nat, gl = wr.heap.size ∧ Below wr.heap.size wr W_ ∧ W_.heap[gl]? = some (.cells #[.int .i64 x.f0, .int .i64 x.f1, .int .i64 x.f2, .int .i64 x.f3, .int .i64 x.f4.f0, .int .i64 x.f4.f1, .int .i64 x.f4.f2, .int .i64 x.f4.f3, .int .i64 x.f4.f4, .int .i64 x.f5.f0, .slice A10 x.f5.f1.length c10, .int .i64 x.f6.f0, .slice A12 x.f6.f1.length c12, .bool x.f7, .slice A14 x.f8.length c14, .slice A15 x.f9.length c15] 77 (0, 0))) ⟨_, rfl, Ba (Below.refl _ _) _, by simpa using blk_new wr (.cells #[.int .i64 x.f0, .int .i64 x.f1, .int .i64 x.f2, .int .i64 x.f3, .int .i64 x.f4.f0, .int .i64 x.f4.f1, .int .i64 x.f4.f2, .int .i64 x.f4.f3, .int .i64 x.f4.f4, .int .i64 x.f5.f0, .slice A10 x.f5.f1.length c10, .int .i64 x.f6.f0, .slice A12 x.f6.f1.length c12, .bool x.f7, .slice A14 x.f8.length c14, .slice A15 x.f9.length c15] 77)⟩ ?_
     rintro W3 ⟨gl, e_gl, hb, x_gl⟩
     replace HB := Am (Bh HB.out HB.out.size hb)
     replace H10 := Am (Cb H10.out hb)
     replace H12 := Am (Cb H12.out hb)
     replace H14 := Am (Cb H14.out hb)
     replace H15 := Am (Cb H15.out hb)
     have BL := Am x_gl
     rw [← e_gl]
     clear hb x_gl e_gl HCS HX0
     obtain ⟨b, HF, HJ⟩ := spec_GoodReplica.two (show ((spec_l8Lead.f K n me x).bind fun b => if b = true then spec_GoodReplica.nx K (spec_GoodReplica.pv l2 i) x (spec_GoodReplica.o K n me (some (x.f0, x.f1)) (l2.drop (i + 1))) else some false) = some r from HI.out)
     clear HI
     have qr0 : W3.cell? ⟨gr, 0, none⟩ = some (.int .i64 me) := (Kc (Kb BR.out HB.out) 0).trans rfl
     have qr1 : W3.cell? ⟨gr, 1, none⟩ = some (.int .i64 n) := (Kc (Kb BR.out HB.out) 1).trans rfl
     go_wp2_with ((refine Gd (N := 33) rfl ?_); refine Kd.event_run rfl (spec_GoodReplica.load1 BL.out 16 rfl 77 _ (by rfl) (by rfl) _ Try.underlying77 rfl (by kernel_rfl)) ?_)
     refine (spec_l8Lead.calls K n me x A10 c10 A12 c12 A14 c14 A15 c15 b W3 H10.out m10 H12.out m12 H14.out m14 H15.out m15 HF.out).mono ?_
     rintro e W4 ⟨rfl, hb⟩
     replace BL := Am (Kb BL.out hb)
     replace HB := Am (Bh HB.out HB.out.size hb)
     clear hb HF H10 H12 H14 H15 qr0 qr1
     cases b with
     | false =>
      obtain rfl : false = r := Option.some.inj HJ.out
      clear HJ
      go_wp2
      go_ret
      exact ⟨rfl, Bh HZ.out HZ.out.size HB.out⟩
     | true =>
      have HI : Ad (spec_GoodReplica.nx K (spec_GoodReplica.pv l2 i) x (spec_GoodReplica.o K n me (some (x.f0, x.f1)) (l2.drop (i + 1))) = some r) := ⟨HJ.out⟩
      rw [← HPV.out] at HI
      clear HJ
      by_cases hi0 : i = 0
      ·skip
       subst hi0
       have HI : Ad (spec_GoodReplica.o K n me (spec_GoodReplica.pv l2 (0 + 1)) (l2.drop (0 + 1)) = some r) := ⟨HI.out⟩
       go_wp2
       go_roundg (l2.length - (0 + 1))
       case measure => omega
       case rel => exact ⟨0 + 1, by omega, by omega, by go_num, HB, HI⟩
      ·skip
       obtain ⟨j, rfl⟩ : ∃ j, i = j + 1 := ⟨i - 1, by omega⟩
       have hgt : decide (((j + 1 : Nat) : Int) > 0) = true := decide_eq_true (by omega)
       obtain ⟨ad2, A10y, c10y, A12y, c12y, A14y, c14y, A15y, c15y, e9, hy0, hy1, hy2, hy3, hy4, hy5, hy6, hy7, hy8, hy9, hy10, hy11, hy12, hy13, hy14, hy15, m10y, h10y, m12y, h12y, m14y, h14y, m15y, h15y⟩ := at_T77 (Cb H2.out (Bh HZ.out HZ.out.size HB.out)) (j : Int) (by omega) (by omega)
       have e8 := Option.some.inj e9
       subst e8
       simp only [Int.toNat_natCast] at hy0 hy1 hy2 hy3 hy4 hy5 hy6 hy7 hy8 hy9 hy10 hy11 hy12 hy13 hy14 hy15
       have he : l2.getD j z77 = rd_T77 l2 (j : Int) := by unfold rd_T77; rw [Int.toNat_natCast]
       have hI := HI.out
       rw [spec_GoodReplica.pvs l2 j, he] at hI
       clear HI he
       generalize rd_T77 l2 (j : Int) = y at hy0 hy1 hy2 hy3 hy4 hy5 hy6 hy7 hy8 hy9 hy10 hy11 hy12 hy13 hy14 hy15 hI m10y h10y m12y h12y m14y h14y m15y h15y
       have HI := Am hI
       have HCS : Ad (spec_GoodReplica.Cs W4 (ad.add (j * 16)).block (ad.add (j * 16)).off [.int .i64 y.f0, .int .i64 y.f1, .int .i64 y.f2, .int .i64 y.f3, .int .i64 y.f4.f0, .int .i64 y.f4.f1, .int .i64 y.f4.f2, .int .i64 y.f4.f3, .int .i64 y.f4.f4, .int .i64 y.f5.f0, .slice A10y y.f5.f1.length c10y, .int .i64 y.f6.f0, .slice A12y y.f6.f1.length c12y, .bool y.f7, .slice A14y y.f8.length c14y, .slice A15y y.f9.length c15y]) := ⟨(by rw [← spec_GoodReplica.spot hy0]; exact hy0), hy1, hy2, hy3, hy4, hy5, hy6, hy7, hy8, hy9, hy10, hy11, hy12, hy13, hy14, hy15, trivial⟩
       have HX0 := Am hy0
       clear hI hy0 hy1 hy2 hy3 hy4 hy5 hy6 hy7 hy8 hy9 hy10 hy11 hy12 hy13 hy14 hy15 h10y m10y h12y m12y h14y m14y h15y m15y
       have qr3 : W4.cell? ⟨gr, 3, none⟩ = some (.slice (some ad) l2.length c2) := (Kc (Kb BR.out HB.out) 3).trans rfl
       go_upto_region 10 with ((refine Gd (N := 43) rfl ?_); refine Kd.event_run rfl (spec_GoodReplica.mid HCS.out HX0.out 16 rfl 77 _ (by rfl) (by rfl) _ Try.underlying77 rfl (by kernel_rfl)) ?_)
       refine letC (fun W_ => ∃ gp : Nat, gp = W4.heap.size ∧ Below W4.heap.size W4 W_ ∧ W_.heap[gp]? = some (.cells #[.int .i64 y.f0, .int .i64 y.f1, .int .i64 y.f2, .int .i64 y.f3, .int .i64 y.f4.f0, .int .i64 y.f4.f1, .int .i64 y.f4.f2, .int .i64 y.f4.f3, .int .i64 y.f4.f4, .int .i64 y.f5.f0, .slice A10y y.f5.f1.length c10y, .int .i64 y.f6.f0, .slice A12y y.f6.f1.length c12y, .bool y.f7, .slice A14y y.f8.length c14y, .slice A15y y.f9.length c15y] 77 (0, 0))) ⟨_, rfl, Ba (Below.refl _ _) _, by simpa using blk_new W4 (.cells #[.int .i64 y.f0, .int .i64 y.f1, .int .i64 y.f2, .int .i64 y.f3, .int .i64 y.f4.f0, .int .i64 y.f4.f1, .int .i64 y.f4.f2, .int .i64 y.f4.f3, .int .i64 y.f4.f4, .int .i64 y.f5.f0, .slice A10y y.f5.f1.length c10y, .int .i64 y.f6.f0, .slice A12y y.f6.f1.length c12y, .bool y.f7, .slice A14y y.f8.length c14y, .slice A15y y.f9.length c15y] 77)⟩ ?_
       rintro W5 ⟨gp, e_gp, hb, x_gp⟩
       replace HB := Am (Bh HB.out HB.out.size hb)
       replace BL := Am (Kb BL.out hb)
       have BP := Am x_gp
       rw [← e_gp]
       clear hb x_gp e_gp HCS HX0 qr3
       have qp0 : W5.cell? ⟨gp, 0, none⟩ = some (.int .i64 y.f0) := (Kc BP.out 0).trans rfl
       have qp1 : W5.cell? ⟨gp, 1, none⟩ = some (.int .i64 y.f1) := (Kc BP.out 1).trans rfl
       have ql0 : W5.cell? ⟨gl, 0, none⟩ = some (.int .i64 x.f0) := (Kc BL.out 0).trans rfl
       have ql1 : W5.cell? ⟨gl, 1, none⟩ = some (.int .i64 x.f1) := (Kc BL.out 1).trans rfl
       by_cases c1 : x.f0 < y.f0
       ·skip
        have d1 : decide (x.f0 < y.f0) = true := decide_eq_true c1
        have HI : Ad (some false = some r) := ⟨by have h_ := HI.out; unfold spec_GoodReplica.nx at h_; dsimp only at h_; rw [if_pos c1] at h_; exact h_⟩
        clear c1
        obtain rfl : false = r := Option.some.inj HI.out
        clear HI
        go_wp2
        go_ret
        exact ⟨rfl, Bh HZ.out HZ.out.size HB.out⟩
       ·skip
        have d1 : decide (x.f0 < y.f0) = false := decide_eq_false c1
        by_cases c2 : y.f0 = x.f0
        ·skip
         have d2 : (y.f0 == x.f0) = true := beq_iff_eq.mpr c2
         by_cases c3 : x.f1 ≤ y.f1
         ·skip
          have d3 : decide (x.f1 ≤ y.f1) = true := decide_eq_true c3
          have HI : Ad (some false = some r) := ⟨by have h_ := HI.out; unfold spec_GoodReplica.nx at h_; dsimp only at h_; rw [if_neg c1, if_pos c2, if_pos c3] at h_; exact h_⟩
          clear c1 c2 c3
          obtain rfl : false = r := Option.some.inj HI.out
          clear HI
          go_wp2
          go_ret
          exact ⟨rfl, Bh HZ.out HZ.out.size HB.out⟩
         ·skip
          have d3 : decide (x.f1 ≤ y.f1) = false := decide_eq_false c3
          have HI : Ad (spec_GoodReplica.o K n me (spec_GoodReplica.pv l2 (j + 1 + 1)) (l2.drop (j + 1 + 1)) = some r) := ⟨by have h_ := HI.out; unfold spec_GoodReplica.nx at h_; dsimp only at h_; rw [if_neg c1, if_pos c2, if_neg c3] at h_; exact h_⟩
          clear c1 c2 c3
          go_wp2
          go_roundg (l2.length - (j + 1 + 1))
          case measure => omega
          case rel => exact ⟨j + 1 + 1, by omega, by omega, by go_num, HB, HI⟩
        ·skip
         have d2 : (y.f0 == x.f0) = false := beq_eq_false_iff_ne.mpr c2
         have HI : Ad (spec_GoodReplica.o K n me (spec_GoodReplica.pv l2 (j + 1 + 1)) (l2.drop (j + 1 + 1)) = some r) := ⟨by have h_ := HI.out; unfold spec_GoodReplica.nx at h_; dsimp only at h_; rw [if_neg c1, if_neg c2] at h_; exact h_⟩
         clear c1 c2
         go_wp2
         go_roundg (l2.length - (j + 1 + 1))
         case measure => omega
         case rel => exact ⟨j + 1 + 1, by omega, by omega, by go_num, HB, HI⟩
    ·have hltz : ¬ (i : Int) < (l2.length : Int) := by omega
     have hI := HI.out
     rw [List.drop_eq_nil_of_le (by omega)] at hI
     have HI : Ad (some true = some r) := ⟨hI⟩
     clear hI
     obtain rfl : true = r := Option.some.inj HI.out
     clear HI
     go_wp2
     go_ret
     exact ⟨rfl, Bh HZ.out HZ.out.size HB.out⟩
def laws_toCmd.f (a0_0 : Int) (a0_1 : Int) (a0_2 : Int) (a0_3 : Int) (a0_4 : Int) : Option (Int × Int × Int × Int × Int) := some (a0_0, a0_1, a0_2, a0_3, a0_4)
set_option maxHeartbeats 8000000 in
set_option maxRecDepth 100000 in
theorem laws_toCmd.calls (a0_0 : Int) (a0_1 : Int) (a0_2 : Int) (a0_3 : Int) (a0_4 : Int) (r1 : Int) (r2 : Int) (r3 : Int) (r4 : Int) (r5 : Int) (w : World) (h : laws_toCmd.f a0_0 a0_1 a0_2 a0_3 a0_4 = some (r1, r2, r3, r4, r5)) :
  Calls Try.prog 97 #[.agg #[.int .i64 a0_0, .int .i64 a0_1, .int .i64 a0_2, .int .i64 a0_3, .int .i64 a0_4]] w fun e w' => e = .returned (.agg #[.int .i64 r1, .int .i64 r2, .int .i64 r3, .int .i64 r4, .int .i64 r5]) ∧ Below w.heap.size w w' := by
 have hu104 := Try.underlying104
 have hu28 := Try.underlying28
 have HB := Am (Below.refl w.heap.size w)
 have H : (some (a0_0, a0_1, a0_2, a0_3, a0_4)) = some (r1, r2, r3, r4, r5) := h
 clear h
 simp only [Option.some.injEq, Prod.mk.injEq] at H
 obtain ⟨rfl, rfl, rfl, rfl, rfl⟩ := H
 go_enter Try.func97, Try.ntmps97
 go_wp2_with (first | ((refine Gd (N := 1) rfl ?_); refine Be ?hg (N := 1) ?hd (cs := #[.int .i64 a0_0, .int .i64 a0_1, .int .i64 a0_2, .int .i64 a0_3, .int .i64 a0_4]) (t := 104) ?hr ?_; (case hd | hg => rfl); (case hr => first | (go_simp; done) | (go_simp; rfl)); intro gb163 hg w2 hbox hb; have n0_ := Am (Bt (by repeat (first | exact HB.out | apply Ba | apply Bn | apply Bd)) hb); have n1_ := Am (hbox); have n2_ := Am ((by rw [hg]; exact (Bz (by repeat (first | exact HB.out | apply Ba | apply Bn | apply Bd))) : w.heap.size ≤ gb163)); have n3_ := Am ((by rw [hg]; exact (Bz (by repeat (first | exact HB.out | apply Ba | apply Bn | apply Bd))) : w.heap.size ≤ gb163)); clear HB; have HB := n0_; have BK163 := n1_; have GW163 := n2_; have GE163 := n3_; clear n0_ n1_ n2_ n3_; clear hb hbox hg) | ((refine Gd (N := 2) rfl ?_); refine Be ?hg (N := 2) ?hd (cs := #[.int .i64 0, .int .i64 0, .int .i64 0, .int .i64 0, .int .i64 0]) (t := 28) ?hr ?_; (case hd | hg => rfl); (case hr => first | (go_simp; done) | (go_simp; rfl)); intro gb164 hg w3 hbox hb; have n0_ := Am (Kb (g := gb163) (o := .cells #[.int .i64 a0_0, .int .i64 a0_1, .int .i64 a0_2, .int .i64 a0_3, .int .i64 a0_4] 104 (0, 0)) (by (with_reducible repeat (first | refine Kn ?_ _ | refine Ke ?_ | refine Ka ?_ _)); exact BK163.out) hb); have n1_ := Am (Bt (by repeat (first | (with_reducible first | exact HB.out | apply Ba | apply Bn | apply Bd | refine Bs ?_ GE163.out) | exact HB.out)) hb); have n2_ := Am (hbox); have n3_ := Am ((by rw [hg]; exact (Bz (by repeat (first | (with_reducible first | exact HB.out | apply Ba | apply Bn | apply Bd | refine Bs ?_ GE163.out) | exact HB.out))) : w.heap.size ≤ gb164)); have n4_ := Am ((by rw [hg]; exact (Bz (by repeat (first | (with_reducible first | exact HB.out | apply Ba | apply Bn | apply Bd | refine Bs ?_ GE163.out) | exact HB.out))) : w.heap.size ≤ gb164)); have n5_ := Am ((by rw [hg]; exact Nat.ne_of_lt (Kl (g := gb163) (o := .cells #[.int .i64 a0_0, .int .i64 a0_1, .int .i64 a0_2, .int .i64 a0_3, .int .i64 a0_4] 104 (0, 0)) (by (with_reducible repeat (first | refine Kn ?_ _ | refine Ke ?_ | refine Ka ?_ _)); exact BK163.out)) : gb163 ≠ gb164)); have n6_ := Am ((by rw [hg]; exact Nat.ne_of_gt (Kl (g := gb163) (o := .cells #[.int .i64 a0_0, .int .i64 a0_1, .int .i64 a0_2, .int .i64 a0_3, .int .i64 a0_4] 104 (0, 0)) (by (with_reducible repeat (first | refine Kn ?_ _ | refine Ke ?_ | refine Ka ?_ _)); exact BK163.out)) : gb164 ≠ gb163)); clear BK163; clear HB; have BK163 := n0_; have HB := n1_; have BK164 := n2_; have GW164 := n3_; have GE164 := n4_; have NB163_164 := n5_; have NB164_163 := n6_; clear n0_ n1_ n2_ n3_ n4_ n5_ n6_; clear hb hbox hg) | ((refine Gd (N := 3) rfl ?_); refine Be ?hg (N := 3) ?hd (cs := #[.int .i64 0, .int .i64 0, .int .i64 0, .int .i64 0, .int .i64 0]) (t := 28) ?hr ?_; (case hd | hg => rfl); (case hr => first | (go_simp; done) | (go_simp; rfl)); intro gb165 hg w4 hbox hb; have n0_ := Am (Kb (g := gb163) (o := .cells #[.int .i64 a0_0, .int .i64 a0_1, .int .i64 a0_2, .int .i64 a0_3, .int .i64 a0_4] 104 (0, 0)) (by (with_reducible repeat (first | refine Kn ?_ _ | refine Ke ?_ | refine Ka ?_ _)); exact BK163.out) hb); have n1_ := Am (Kb (g := gb164) (o := .cells #[.int .i64 0, .int .i64 0, .int .i64 0, .int .i64 0, .int .i64 0] 28 (0, 0)) (by (with_reducible repeat (first | refine Kn ?_ _ | refine Ke ?_ | refine Ka ?_ _)); exact BK164.out) hb); have n2_ := Am (Bt (by repeat (first | (with_reducible first | exact HB.out | apply Ba | apply Bn | apply Bd | refine Bs ?_ GE163.out | refine Bs ?_ GE164.out) | exact HB.out)) hb); have n3_ := Am (hbox); have n4_ := Am ((by rw [hg]; exact (Bz (by repeat (first | (with_reducible first | exact HB.out | apply Ba | apply Bn | apply Bd | refine Bs ?_ GE163.out | refine Bs ?_ GE164.out) | exact HB.out))) : w.heap.size ≤ gb165)); have n5_ := Am ((by rw [hg]; exact (Bz (by repeat (first | (with_reducible first | exact HB.out | apply Ba | apply Bn | apply Bd | refine Bs ?_ GE163.out | refine Bs ?_ GE164.out) | exact HB.out))) : w.heap.size ≤ gb165)); have n6_ := Am ((by rw [hg]; exact Nat.ne_of_lt (Kl (g := gb163) (o := .cells #[.int .i64 a0_0, .int .i64 a0_1, .int .i64 a0_2, .int .i64 a0_3, .int .i64 a0_4] 104 (0, 0)) (by (with_reducible repeat (first | refine Kn ?_ _ | refine Ke ?_ | refine Ka ?_ _)); exact BK163.out)) : gb163 ≠ gb165)); have n7_ := Am ((by rw [hg]; exact Nat.ne_of_gt (Kl (g := gb163) (o := .cells #[.int .i64 a0_0, .int .i64 a0_1, .int .i64 a0_2, .int .i64 a0_3, .int .i64 a0_4] 104 (0, 0)) (by (with_reducible repeat (first | refine Kn ?_ _ | refine Ke ?_ | refine Ka ?_ _)); exact BK163.out)) : gb165 ≠ gb163)); have n8_ := Am ((by rw [hg]; exact Nat.ne_of_lt (Kl (g := gb164) (o := .cells #[.int .i64 0, .int .i64 0, .int .i64 0, .int .i64 0, .int .i64 0] 28 (0, 0)) (by (with_reducible repeat (first | refine Kn ?_ _ | refine Ke ?_ | refine Ka ?_ _)); exact BK164.out)) : gb164 ≠ gb165)); have n9_ := Am ((by rw [hg]; exact Nat.ne_of_gt (Kl (g := gb164) (o := .cells #[.int .i64 0, .int .i64 0, .int .i64 0, .int .i64 0, .int .i64 0] 28 (0, 0)) (by (with_reducible repeat (first | refine Kn ?_ _ | refine Ke ?_ | refine Ka ?_ _)); exact BK164.out)) : gb165 ≠ gb164)); clear BK163; clear BK164; clear HB; have BK163 := n0_; have BK164 := n1_; have HB := n2_; have BK165 := n3_; have GW165 := n4_; have GE165 := n5_; have NB163_165 := n6_; have NB165_163 := n7_; have NB164_165 := n8_; have NB165_164 := n9_; clear n0_ n1_ n2_ n3_ n4_ n5_ n6_ n7_ n8_ n9_; clear hb hbox hg; have hnb5 := NB163_164.out; have hnc5 := NB164_163.out; have hnb6 := NB163_165.out; have hnc6 := NB165_163.out; have hcz7_0 : w4.cell? ⟨gb163, 0, none⟩ = some (.int .i64 a0_0) := (Kc BK163.out 0).trans rfl; have hcz7_1 : w4.cell? ⟨gb163, 1, none⟩ = some (.int .i64 a0_1) := (Kc BK163.out 1).trans rfl; have hcz7_2 : w4.cell? ⟨gb163, 2, none⟩ = some (.int .i64 a0_2) := (Kc BK163.out 2).trans rfl; have hcz7_3 : w4.cell? ⟨gb163, 3, none⟩ = some (.int .i64 a0_3) := (Kc BK163.out 3).trans rfl; have hcz7_4 : w4.cell? ⟨gb163, 4, none⟩ = some (.int .i64 a0_4) := (Kc BK163.out 4).trans rfl; have hfz7_0 := Kz BK163.out 0; have hfz7_1 := Kz BK163.out 1; have hfz7_2 := Kz BK163.out 2; have hfz7_3 := Kz BK163.out 3; have hfz7_4 := Kz BK163.out 4; have hnb8 := NB165_164.out; have hnc8 := NB164_165.out; have hcz9_0 : w4.cell? ⟨gb165, 0, none⟩ = some (.int .i64 0) := (Kc BK165.out 0).trans rfl; have hcz9_1 : w4.cell? ⟨gb165, 1, none⟩ = some (.int .i64 0) := (Kc BK165.out 1).trans rfl; have hcz9_2 : w4.cell? ⟨gb165, 2, none⟩ = some (.int .i64 0) := (Kc BK165.out 2).trans rfl; have hcz9_3 : w4.cell? ⟨gb165, 3, none⟩ = some (.int .i64 0) := (Kc BK165.out 3).trans rfl; have hcz9_4 : w4.cell? ⟨gb165, 4, none⟩ = some (.int .i64 0) := (Kc BK165.out 4).trans rfl; have hfz9_0 := Kz BK165.out 0; have hfz9_1 := Kz BK165.out 1; have hfz9_2 := Kz BK165.out 2; have hfz9_3 := Kz BK165.out 3; have hfz9_4 := Kz BK165.out 4; have hcz10_0 : w4.cell? ⟨gb164, 0, none⟩ = some (.int .i64 0) := (Kc BK164.out 0).trans rfl; have hcz10_1 : w4.cell? ⟨gb164, 1, none⟩ = some (.int .i64 0) := (Kc BK164.out 1).trans rfl; have hcz10_2 : w4.cell? ⟨gb164, 2, none⟩ = some (.int .i64 0) := (Kc BK164.out 2).trans rfl; have hcz10_3 : w4.cell? ⟨gb164, 3, none⟩ = some (.int .i64 0) := (Kc BK164.out 3).trans rfl; have hcz10_4 : w4.cell? ⟨gb164, 4, none⟩ = some (.int .i64 0) := (Kc BK164.out 4).trans rfl; have hfz10_0 := Kz BK164.out 0; have hfz10_1 := Kz BK164.out 1; have hfz10_2 := Kz BK164.out 2; have hfz10_3 := Kz BK164.out 3; have hfz10_4 := Kz BK164.out 4))
 refine bodyPost_ret (results_cell_row rfl _ _ gb164 28 #[.int .i64 a0_0, .int .i64 a0_1, .int .i64 a0_2, .int .i64 a0_3, .int .i64 a0_4] (0, 0) _ rfl (by (with_reducible repeat (first | refine Kn ?_ _ | refine Ke ?_ | refine Ka ?_ _)); refine blk_put (cs := #[.int .i64 a0_0, .int .i64 a0_1, .int .i64 a0_2, .int .i64 a0_3, .int .i64 0]) ?_ 4 _ rfl; (with_reducible repeat (first | refine Kn ?_ _ | refine Ke ?_ | refine Ka ?_ _)); refine blk_put (cs := #[.int .i64 a0_0, .int .i64 a0_1, .int .i64 a0_2, .int .i64 0, .int .i64 0]) ?_ 3 _ rfl; (with_reducible repeat (first | refine Kn ?_ _ | refine Ke ?_ | refine Ka ?_ _)); refine blk_put (cs := #[.int .i64 a0_0, .int .i64 a0_1, .int .i64 0, .int .i64 0, .int .i64 0]) ?_ 2 _ rfl; (with_reducible repeat (first | refine Kn ?_ _ | refine Ke ?_ | refine Ka ?_ _)); refine blk_put (cs := #[.int .i64 a0_0, .int .i64 0, .int .i64 0, .int .i64 0, .int .i64 0]) ?_ 1 _ rfl; (with_reducible repeat (first | refine Kn ?_ _ | refine Ke ?_ | refine Ka ?_ _)); refine blk_put (cs := #[.int .i64 0, .int .i64 0, .int .i64 0, .int .i64 0, .int .i64 0]) ?_ 0 _ rfl; (with_reducible repeat (first | refine Kn ?_ _ | refine Ke ?_ | refine Ka ?_ _)); refine Kf ?_ NB164_165.out _; (with_reducible repeat (first | refine Kn ?_ _ | refine Ke ?_ | refine Ka ?_ _)); refine Kf ?_ NB164_165.out _; (with_reducible repeat (first | refine Kn ?_ _ | refine Ke ?_ | refine Ka ?_ _)); refine Kf ?_ NB164_165.out _; (with_reducible repeat (first | refine Kn ?_ _ | refine Ke ?_ | refine Ka ?_ _)); refine Kf ?_ NB164_165.out _; (with_reducible repeat (first | refine Kn ?_ _ | refine Ke ?_ | refine Ka ?_ _)); refine Kf ?_ NB164_165.out _; (with_reducible repeat (first | refine Kn ?_ _ | refine Ke ?_ | refine Ka ?_ _)); exact BK164.out) Try.underlying28 rfl (by kernel_rfl)) rfl ?_
 exact ⟨by first | rfl | (simp [*, errW_none, errW_some] <;> rfl), by repeat (first | (with_reducible first | exact HB.out | apply Ba | apply Bn | apply Bd | refine Bs ?_ GE163.out | refine Bs ?_ GE164.out | refine Bs ?_ GE165.out) | exact HB.out)⟩
end Go.Proofs.Ytilmcfdhijdhpaa.QFnExactGoodReplica
