-- Written by a program of this session (wip/mk.py) over the kit's print: Lean checks it.
import Derived.Test.YtacpjifbgnlppaaQFnExactAttrForx0
import Derived.Test.YtacpjifbgnlppaaQFnExactAttrForx5
import Derived.Test.YtacpjifbgnlppaaQFnExactAttrForx10
import Derived.Test.YtacpjifbgnlppaaQFnExactAttrForx13
namespace Go.Proofs.Ytacpjifbgnlppaa.QFnExactAttrFor
open Go.Proofs.YtacpjifbgnlppaaW.PrintWords.Kd renaming R_alloc → Ra, R_drewN → Rn, R_drew → Rd
open Go.Proofs.YtacpjifbgnlppaaW.PrintWords renaming below_alloc → Ba, pw_below_drewN → Bn, below_drew1 → Bd, below_set → Bs, below_size → Bz, below_step → Bt, gate_dst → Gd, gate_callee → Gc, box_event → Be, blk_alloc → Ka, blk_drewN → Kn, blk_drew → Ke, blk_below → Kb, blk_cell → Kc, blk_frozen → Kz
open Go.Proofs.YtacpjifbgnlppaaW.PrintWords.Aside0 renaming mk → Am
open Go.Proofs.YtacpjifbgnlppaaW.PrintWords renaming Aside0 → Ad
open Go.RowKit Go.Proofs.YtacpjifbgnlppaaW.PrintWords Go.Proofs.YtacpjifbgnlppaaW.PrintLast Go.Proofs.YtacpjifbgnlppaaW.PrintMore
attribute [local go_sem] max2_int min2_int max_two min_two max_three min_three max_four min_four   -- for this text's walks alone
set_option linter.unusedVariables false
set_option linter.unusedSimpArgs false
def impl_AttrFor.f (K : Nat) (n : Int) (l : List (List S72)) (c0 c1 c2 c3 c4 : Int) (rep no : Int) : Option (Int × List Int × Bool) :=
 (impl_GoodTable.f K n l).bind fun b => if b = true then ((impl_GoodCmd.f c0 c1 c2 c3 c4).bind fun b2 => if b2 = true then ((impl_isInstance.f n rep no).bind fun b3 => if b3 = true then ((impl_Table_attrFor.f K n l c0 c1 c2 c3 c4 rep no).bind fun bt => if bt.2.2 = true then some (bt.1, bt.2.1, true) else some (0, [], false)) else some (0, [], false)) else some (0, [], false)) else some (0, [], false)
set_option maxHeartbeats 4000000 in
set_option maxRecDepth 100000 in
theorem impl_AttrFor.calls (K : Nat) (n : Int) (A : Option Addr) (cl : Nat) (l : List (List S72)) (c0 c1 c2 c3 c4 : Int) (rep no : Int) (r1 : Int) (r2 : List Int) (r3 : Bool) (w : World) (hr : Kd.C (Kd.slice 72 k72) w A l.length l) (hcl : l.length ≤ cl) (h : impl_AttrFor.f K n l c0 c1 c2 c3 c4 rep no = some (r1, r2, r3)) :
  Calls Try.prog 25 #[.agg #[.int .i64 n, .slice A l.length cl], .agg #[.int .i64 c0, .int .i64 c1, .int .i64 c2, .int .i64 c3, .int .i64 c4], .int .i64 rep, .int .i64 no] w fun e w' => ∃ v1_ : Value, e = .returned (.tuple #[.agg #[.int .i64 r1, v1_], .bool r3]) ∧ Kd.R (Kd.int .i64) 3 w' w.heap.size (fun _ => True) v1_ r2 ∧ Below w.heap.size w w' := by
 have hu2 := Try.underlying49
 have hu3 := Try.underlying29
 have hu4 := Try.underlying46
 obtain ⟨c, hcc⟩ : ∃ c : S49, c = ⟨c0, c1, c2, c3, c4⟩ := ⟨_, rfl⟩
 have e0 : c0 = c.f0 := by rw [hcc]
 have e1 : c1 = c.f1 := by rw [hcc]
 have e2 : c2 = c.f2 := by rw [hcc]
 have e3 : c3 = c.f3 := by rw [hcc]
 have e4 : c4 = c.f4 := by rw [hcc]
 unfold impl_AttrFor.f at h
 rw [e0, e1, e2, e3, e4] at h ⊢
 clear hcc e0 e1 e2 e3 e4 c0 c1 c2 c3 c4
 cases hg : impl_GoodTable.f K n l with
 | none => rw [hg] at h; cases h
 | some b =>
 rw [hg, Option.bind_some] at h
 have HR := Am hr
 have HCL := Am hcl
 have HG := Am hg
 have HF := Am h
 clear h hg hr hcl
 go_enter Try.func25, Try.ntmps25
 go_upto_region 1 with (fail)
 refine letC (fun W_ => Below w.heap.size w W_ ∧ W_.heap[w.heap.size]? = some (.cells #[.int .i64 n, .slice A l.length cl] 29 (0, 0)) ∧ W_.heap[w.heap.size + 1]? = some (.cells #[.int .i64 c.f0, .int .i64 c.f1, .int .i64 c.f2, .int .i64 c.f3, .int .i64 c.f4] 49 (0, 0)) ∧ W_.heap[w.heap.size + 2]? = some (.cells #[.int .i64 0, .slice none 0 0] 46 (0, 0))) ⟨Ba (Ba (Ba (Below.refl _ _) _) _) _, ?_, ?_, ?_⟩ ?_
 ·simpa using Ka (Ka (blk_new w (.cells #[.int .i64 n, .slice A l.length cl] 29)) (.cells #[.int .i64 c.f0, .int .i64 c.f1, .int .i64 c.f2, .int .i64 c.f3, .int .i64 c.f4] 49)) (.cells #[.int .i64 0, .slice none 0 0] 46)
 ·simpa using Ka (blk_new (w.alloc (.cells #[.int .i64 n, .slice A l.length cl] 29)) (.cells #[.int .i64 c.f0, .int .i64 c.f1, .int .i64 c.f2, .int .i64 c.f3, .int .i64 c.f4] 49)) (.cells #[.int .i64 0, .slice none 0 0] 46)
 ·simpa using blk_new ((w.alloc (.cells #[.int .i64 n, .slice A l.length cl] 29)).alloc (.cells #[.int .i64 c.f0, .int .i64 c.f1, .int .i64 c.f2, .int .i64 c.f3, .int .i64 c.f4] 49)) (.cells #[.int .i64 0, .slice none 0 0] 46)
 rintro W1 ⟨hb, ht, hc, h8⟩
 have HB1 := Am hb
 have HT1 := Am ht
 have HC1 := Am hc
 have H81 := Am h8
 clear hb ht hc h8
 have qt0 : W1.cell? ⟨w.heap.size, 0, none⟩ = some (.int .i64 n) := (Kc HT1.out 0).trans rfl
 have qt1 : W1.cell? ⟨w.heap.size, 1, none⟩ = some (.slice A l.length cl) := (Kc HT1.out 1).trans rfl
 have qc0 : W1.cell? ⟨w.heap.size + 1, 0, none⟩ = some (.int .i64 c.f0) := (Kc HC1.out 0).trans rfl
 have qc1 : W1.cell? ⟨w.heap.size + 1, 1, none⟩ = some (.int .i64 c.f1) := (Kc HC1.out 1).trans rfl
 have qc2 : W1.cell? ⟨w.heap.size + 1, 2, none⟩ = some (.int .i64 c.f2) := (Kc HC1.out 2).trans rfl
 have qc3 : W1.cell? ⟨w.heap.size + 1, 3, none⟩ = some (.int .i64 c.f3) := (Kc HC1.out 3).trans rfl
 have qc4 : W1.cell? ⟨w.heap.size + 1, 4, none⟩ = some (.int .i64 c.f4) := (Kc HC1.out 4).trans rfl
 go_wp2_with fail
 refine (impl_GoodTable.calls K n A cl l b W1 (Kd.C_below HR.out HB1.out) HCL.out HG.out).mono ?_
 rintro e W2 ⟨rfl, hb⟩
 have hb : Below W1.heap.size W1 W2 := by first | exact hb | exact hb.below
 have HB2 := Am (below_then HB1.out HB1.out.size hb)
 have HT2 := Am (Kb HT1.out hb)
 have HC2 := Am (Kb HC1.out hb)
 have H82 := Am (Kb H81.out hb)
 clear hb qt0 qt1 qc0 qc1 qc2 qc3 qc4 HB1 HT1 HC1 H81
 have qt0 : W2.cell? ⟨w.heap.size, 0, none⟩ = some (.int .i64 n) := (Kc HT2.out 0).trans rfl
 have qt1 : W2.cell? ⟨w.heap.size, 1, none⟩ = some (.slice A l.length cl) := (Kc HT2.out 1).trans rfl
 have qc0 : W2.cell? ⟨w.heap.size + 1, 0, none⟩ = some (.int .i64 c.f0) := (Kc HC2.out 0).trans rfl
 have qc1 : W2.cell? ⟨w.heap.size + 1, 1, none⟩ = some (.int .i64 c.f1) := (Kc HC2.out 1).trans rfl
 have qc2 : W2.cell? ⟨w.heap.size + 1, 2, none⟩ = some (.int .i64 c.f2) := (Kc HC2.out 2).trans rfl
 have qc3 : W2.cell? ⟨w.heap.size + 1, 3, none⟩ = some (.int .i64 c.f3) := (Kc HC2.out 3).trans rfl
 have qc4 : W2.cell? ⟨w.heap.size + 1, 4, none⟩ = some (.int .i64 c.f4) := (Kc HC2.out 4).trans rfl
 cases b with
 | false =>
  have HE : Ad (0 = r1 ∧ ([] : List Int) = r2 ∧ false = r3) := ⟨by simpa using HF.out⟩
  have q80 : W2.cell? ⟨w.heap.size + 2, 0, none⟩ = some (.int .i64 0) := (Kc H82.out 0).trans rfl
  have q81 : W2.cell? ⟨w.heap.size + 2, 1, none⟩ = some (.slice none 0 0) := (Kc H82.out 1).trans rfl
  have f80 := Kz H82.out 0
  have f81 := Kz H82.out 1
  have HG8 : Ad (w.heap.size ≤ w.heap.size + 2) := ⟨by omega⟩
  have HFIN : Ad (((W2.setCell ⟨w.heap.size + 2, 0, none⟩ (.int .i64 0)).setCell ⟨w.heap.size + 2, 1, none⟩ (.slice none 0 0)).heap[w.heap.size + 2]? = some (.cells #[.int .i64 0, .slice none 0 0] 46 (0, 0))) := ⟨blk_put (cs := #[.int .i64 0, .slice none 0 0]) (blk_put H82.out 0 _ rfl) 1 _ rfl⟩
  go_wp2
  (try simp only [Exit.inBlock, Exit.then])
  refine bodyPost_ret (results_ct rfl _ _ (w.heap.size + 2) 46 #[.int .i64 0, .slice none 0 0] (0, 0) _ rfl HFIN.out Try.underlying46 rfl (by kernel_rfl)) rfl ?_
  obtain ⟨h1, h2, h3⟩ := HE.out
  rw [← h1, ← h2, ← h3]
  exact ⟨_, rfl, Kd.R_nil _ _ _ _ _, Bs (Bs HB2.out HG8.out) HG8.out⟩
 | true =>
 cases hm : impl_GoodCmd.f c.f0 c.f1 c.f2 c.f3 c.f4 with
 | none => exact absurd HF.out (by rw [if_pos rfl, hm]; simp)
 | some b2 =>
 have HM := Am hm
 replace HF : Ad ((if b2 = true then ((impl_isInstance.f n rep no).bind fun b3 => if b3 = true then ((impl_Table_attrFor.f K n l c.f0 c.f1 c.f2 c.f3 c.f4 rep no).bind fun bt => if bt.2.2 = true then some (bt.1, bt.2.1, true) else some (0, [], false)) else some (0, [], false)) else some (0, [], false)) = some (r1, r2, r3)) := ⟨by have h_ := HF.out; rw [if_pos rfl, hm, Option.bind_some] at h_; exact h_⟩
 clear hm
 go_wp2_with fail
 refine (impl_GoodCmd.calls c.f0 c.f1 c.f2 c.f3 c.f4 b2 W2 HM.out).mono ?_
 rintro e W3 ⟨rfl, hb⟩
 have hb : Below W2.heap.size W2 W3 := by first | exact hb | exact hb.below
 have HB3 := Am (below_then HB2.out HB2.out.size hb)
 have HT3 := Am (Kb HT2.out hb)
 have HC3 := Am (Kb HC2.out hb)
 have H83 := Am (Kb H82.out hb)
 clear hb qt0 qt1 qc0 qc1 qc2 qc3 qc4 HB2 HT2 HC2 H82
 have qt0 : W3.cell? ⟨w.heap.size, 0, none⟩ = some (.int .i64 n) := (Kc HT3.out 0).trans rfl
 have qt1 : W3.cell? ⟨w.heap.size, 1, none⟩ = some (.slice A l.length cl) := (Kc HT3.out 1).trans rfl
 have qc0 : W3.cell? ⟨w.heap.size + 1, 0, none⟩ = some (.int .i64 c.f0) := (Kc HC3.out 0).trans rfl
 have qc1 : W3.cell? ⟨w.heap.size + 1, 1, none⟩ = some (.int .i64 c.f1) := (Kc HC3.out 1).trans rfl
 have qc2 : W3.cell? ⟨w.heap.size + 1, 2, none⟩ = some (.int .i64 c.f2) := (Kc HC3.out 2).trans rfl
 have qc3 : W3.cell? ⟨w.heap.size + 1, 3, none⟩ = some (.int .i64 c.f3) := (Kc HC3.out 3).trans rfl
 have qc4 : W3.cell? ⟨w.heap.size + 1, 4, none⟩ = some (.int .i64 c.f4) := (Kc HC3.out 4).trans rfl
 cases b2 with
 | false =>
  have HE : Ad (0 = r1 ∧ ([] : List Int) = r2 ∧ false = r3) := ⟨by simpa using HF.out⟩
  have q80 : W3.cell? ⟨w.heap.size + 2, 0, none⟩ = some (.int .i64 0) := (Kc H83.out 0).trans rfl
  have q81 : W3.cell? ⟨w.heap.size + 2, 1, none⟩ = some (.slice none 0 0) := (Kc H83.out 1).trans rfl
  have f80 := Kz H83.out 0
  have f81 := Kz H83.out 1
  have HG8 : Ad (w.heap.size ≤ w.heap.size + 2) := ⟨by omega⟩
  have HFIN : Ad (((W3.setCell ⟨w.heap.size + 2, 0, none⟩ (.int .i64 0)).setCell ⟨w.heap.size + 2, 1, none⟩ (.slice none 0 0)).heap[w.heap.size + 2]? = some (.cells #[.int .i64 0, .slice none 0 0] 46 (0, 0))) := ⟨blk_put (cs := #[.int .i64 0, .slice none 0 0]) (blk_put H83.out 0 _ rfl) 1 _ rfl⟩
  go_wp2
  (try simp only [Exit.inBlock, Exit.then])
  refine bodyPost_ret (results_ct rfl _ _ (w.heap.size + 2) 46 #[.int .i64 0, .slice none 0 0] (0, 0) _ rfl HFIN.out Try.underlying46 rfl (by kernel_rfl)) rfl ?_
  obtain ⟨h1, h2, h3⟩ := HE.out
  rw [← h1, ← h2, ← h3]
  exact ⟨_, rfl, Kd.R_nil _ _ _ _ _, Bs (Bs HB3.out HG8.out) HG8.out⟩
 | true =>
 cases hi : impl_isInstance.f n rep no with
 | none => exact absurd HF.out (by rw [if_pos rfl, hi]; simp)
 | some b3 =>
 have HI := Am hi
 replace HF : Ad ((if b3 = true then ((impl_Table_attrFor.f K n l c.f0 c.f1 c.f2 c.f3 c.f4 rep no).bind fun bt => if bt.2.2 = true then some (bt.1, bt.2.1, true) else some (0, [], false)) else some (0, [], false)) = some (r1, r2, r3)) := ⟨by have h_ := HF.out; rw [if_pos rfl, hi, Option.bind_some] at h_; exact h_⟩
 clear hi
 go_wp2_with fail
 refine (impl_isInstance.calls n rep no b3 W3 HI.out).mono ?_
 rintro e W4 ⟨rfl, hb⟩
 have hb : Below W3.heap.size W3 W4 := by first | exact hb | exact hb.below
 have HB4 := Am (below_then HB3.out HB3.out.size hb)
 have HT4 := Am (Kb HT3.out hb)
 have HC4 := Am (Kb HC3.out hb)
 have H84 := Am (Kb H83.out hb)
 clear hb qt0 qt1 qc0 qc1 qc2 qc3 qc4 HB3 HT3 HC3 H83
 have qt0 : W4.cell? ⟨w.heap.size, 0, none⟩ = some (.int .i64 n) := (Kc HT4.out 0).trans rfl
 have qt1 : W4.cell? ⟨w.heap.size, 1, none⟩ = some (.slice A l.length cl) := (Kc HT4.out 1).trans rfl
 have qc0 : W4.cell? ⟨w.heap.size + 1, 0, none⟩ = some (.int .i64 c.f0) := (Kc HC4.out 0).trans rfl
 have qc1 : W4.cell? ⟨w.heap.size + 1, 1, none⟩ = some (.int .i64 c.f1) := (Kc HC4.out 1).trans rfl
 have qc2 : W4.cell? ⟨w.heap.size + 1, 2, none⟩ = some (.int .i64 c.f2) := (Kc HC4.out 2).trans rfl
 have qc3 : W4.cell? ⟨w.heap.size + 1, 3, none⟩ = some (.int .i64 c.f3) := (Kc HC4.out 3).trans rfl
 have qc4 : W4.cell? ⟨w.heap.size + 1, 4, none⟩ = some (.int .i64 c.f4) := (Kc HC4.out 4).trans rfl
 cases b3 with
 | false =>
  have HE : Ad (0 = r1 ∧ ([] : List Int) = r2 ∧ false = r3) := ⟨by simpa using HF.out⟩
  have q80 : W4.cell? ⟨w.heap.size + 2, 0, none⟩ = some (.int .i64 0) := (Kc H84.out 0).trans rfl
  have q81 : W4.cell? ⟨w.heap.size + 2, 1, none⟩ = some (.slice none 0 0) := (Kc H84.out 1).trans rfl
  have f80 := Kz H84.out 0
  have f81 := Kz H84.out 1
  have HG8 : Ad (w.heap.size ≤ w.heap.size + 2) := ⟨by omega⟩
  have HFIN : Ad (((W4.setCell ⟨w.heap.size + 2, 0, none⟩ (.int .i64 0)).setCell ⟨w.heap.size + 2, 1, none⟩ (.slice none 0 0)).heap[w.heap.size + 2]? = some (.cells #[.int .i64 0, .slice none 0 0] 46 (0, 0))) := ⟨blk_put (cs := #[.int .i64 0, .slice none 0 0]) (blk_put H84.out 0 _ rfl) 1 _ rfl⟩
  go_wp2
  (try simp only [Exit.inBlock, Exit.then])
  refine bodyPost_ret (results_ct rfl _ _ (w.heap.size + 2) 46 #[.int .i64 0, .slice none 0 0] (0, 0) _ rfl HFIN.out Try.underlying46 rfl (by kernel_rfl)) rfl ?_
  obtain ⟨h1, h2, h3⟩ := HE.out
  rw [← h1, ← h2, ← h3]
  exact ⟨_, rfl, Kd.R_nil _ _ _ _ _, Bs (Bs HB4.out HG8.out) HG8.out⟩
 | true =>
 cases ha : impl_Table_attrFor.f K n l c.f0 c.f1 c.f2 c.f3 c.f4 rep no with
 | none => exact absurd HF.out (by rw [if_pos rfl, ha]; simp)
 | some bt =>
 obtain ⟨b1, bs, bo⟩ := bt
 have HA := Am ha
 replace HF : Ad ((if bo = true then some (b1, bs, true) else some (0, [], false)) = some (r1, r2, r3)) := ⟨by have h_ := HF.out; rw [if_pos rfl, ha, Option.bind_some] at h_; exact h_⟩
 clear ha
 go_wp2_with fail
 refine (impl_Table_attrFor.calls K n A cl l c.f0 c.f1 c.f2 c.f3 c.f4 rep no b1 bs bo W4 (Kd.C_below HR.out HB4.out) HCL.out HA.out).mono ?_
 rintro e W5 ⟨v, rfl, hR, hb⟩
 have HR5 := Am (Kd.R_lower hR HB4.out.size)
 have HB5 := Am (below_then HB4.out HB4.out.size hb)
 have H85 := Am (Kb H84.out hb)
 clear hR hb qt0 qt1 qc0 qc1 qc2 qc3 qc4
 obtain ⟨Av, cv, rfl⟩ := Kd.R_slice HR5.out
 have HLT := Am (blk_lt H85.out)
 go_upto_region 4 with (fail)
 refine letC (fun W_ => Below W5.heap.size W5 W_ ∧ W_.heap[W5.heap.size]? = some (.cells #[.int .i64 b1, .slice Av bs.length cv] 46 (0, 0))) ⟨Ba (Below.refl _ _) _, blk_new W5 (.cells #[.int .i64 b1, .slice Av bs.length cv] 46)⟩ ?_
 rintro W6 ⟨hb, ho⟩
 have HR6 := Am (Kd.R_below HR5.out hb)
 have HB6 := Am (below_then HB5.out HB5.out.size hb)
 have H86 := Am (Kb H85.out hb)
 have qo0 : W6.cell? ⟨W5.heap.size, 0, none⟩ = some (.int .i64 b1) := (Kc ho 0).trans rfl
 have qo1 : W6.cell? ⟨W5.heap.size, 1, none⟩ = some (.slice Av bs.length cv) := (Kc ho 1).trans rfl
 clear hb ho HR5 HB5 H85
 cases bo with
 | false =>
  have HE : Ad (0 = r1 ∧ ([] : List Int) = r2 ∧ false = r3) := ⟨by simpa using HF.out⟩
  have q80 : W6.cell? ⟨w.heap.size + 2, 0, none⟩ = some (.int .i64 0) := (Kc H86.out 0).trans rfl
  have q81 : W6.cell? ⟨w.heap.size + 2, 1, none⟩ = some (.slice none 0 0) := (Kc H86.out 1).trans rfl
  have f80 := Kz H86.out 0
  have f81 := Kz H86.out 1
  have HG8 : Ad (w.heap.size ≤ w.heap.size + 2) := ⟨by omega⟩
  have HFIN : Ad (((W6.setCell ⟨w.heap.size + 2, 0, none⟩ (.int .i64 0)).setCell ⟨w.heap.size + 2, 1, none⟩ (.slice none 0 0)).heap[w.heap.size + 2]? = some (.cells #[.int .i64 0, .slice none 0 0] 46 (0, 0))) := ⟨blk_put (cs := #[.int .i64 0, .slice none 0 0]) (blk_put H86.out 0 _ rfl) 1 _ rfl⟩
  go_wp2
  (try simp only [Exit.inBlock, Exit.then])
  refine bodyPost_ret (results_ct rfl _ _ (w.heap.size + 2) 46 #[.int .i64 0, .slice none 0 0] (0, 0) _ rfl HFIN.out Try.underlying46 rfl (by kernel_rfl)) rfl ?_
  obtain ⟨h1, h2, h3⟩ := HE.out
  rw [← h1, ← h2, ← h3]
  exact ⟨_, rfl, Kd.R_nil _ _ _ _ _, Bs (Bs HB6.out HG8.out) HG8.out⟩
 | true =>
  have HE : Ad (b1 = r1 ∧ bs = r2 ∧ true = r3) := ⟨by simpa using HF.out⟩
  have q80 : W6.cell? ⟨w.heap.size + 2, 0, none⟩ = some (.int .i64 0) := (Kc H86.out 0).trans rfl
  have q81 : W6.cell? ⟨w.heap.size + 2, 1, none⟩ = some (.slice none 0 0) := (Kc H86.out 1).trans rfl
  have f80 := Kz H86.out 0
  have f81 := Kz H86.out 1
  have HG8 : Ad (w.heap.size ≤ w.heap.size + 2) := ⟨by omega⟩
  have HFIN : Ad (((W6.setCell ⟨w.heap.size + 2, 0, none⟩ (.int .i64 b1)).setCell ⟨w.heap.size + 2, 1, none⟩ (.slice Av bs.length cv)).heap[w.heap.size + 2]? = some (.cells #[.int .i64 b1, .slice Av bs.length cv] 46 (0, 0))) := ⟨blk_put (cs := #[.int .i64 b1, .slice none 0 0]) (blk_put H86.out 0 _ rfl) 1 _ rfl⟩
  have HRR := Am (Kd.R_set (Kd.R_set HR6.out H86.out (by decide) 0 (.int .i64 b1)) (blk_put H86.out 0 _ rfl) (by decide) 1 (.slice Av bs.length cv))
  go_wp2
  (try simp only [Exit.inBlock, Exit.then])
  refine bodyPost_ret (results_ct rfl _ _ (w.heap.size + 2) 46 #[.int .i64 b1, .slice Av bs.length cv] (0, 0) _ rfl HFIN.out Try.underlying46 rfl (by kernel_rfl)) rfl ?_
  obtain ⟨h1, h2, h3⟩ := HE.out
  rw [← h1, ← h2, ← h3]
  exact ⟨_, rfl, HRR.out, Bs (Bs HB6.out HG8.out) HG8.out⟩
def laws_markAttr.f (k : Nat) (a0_0 : Int) (l0_1 : List Int) (a1 : Int) : Option (Int × List Int) := (laws_markIntS.f k l0_1 a1).bind fun bt371 => (some (bt371.1, bt371.2))
theorem laws_markAttr.mono : ∀ a0 a1 a2 k, LeO (laws_markAttr.f k a0 a1 a2) (laws_markAttr.f (k + 1) a0 a1 a2) := by
 intro a0 a1 a2 k
 unfold laws_markAttr.f
 repeat' first
   | (with_reducible exact laws_markIntS.mono _ _ _)
   | (with_reducible exact LeO.refl _)
   | (with_reducible exact LeO.none _)
   | (with_reducible refine LeO.ite ?_ ?_)
   | (with_reducible refine LeO.bind ?_ (fun _ => ?_))
   | exact laws_markIntS.mono _ _ _
   | exact LeO.none _
   | refine LeO.ite ?_ ?_
   | refine LeO.bind ?_ (fun _ => ?_)
set_option maxHeartbeats 8000000 in
set_option maxRecDepth 100000 in
theorem laws_markAttr.calls (k : Nat) (a0_0 : Int) (P0_1_ : Nat → Prop) (u9000_ : Value) (l0_1 : List Int) (a1 : Int) (r1 : Int) (r2 : List Int) (w0 w : World) (hB : Below w0.heap.size w0 w) (ho0_1 : Kd.R (Kd.int .i64) 3 w w0.heap.size P0_1_ u9000_ l0_1) (h : laws_markAttr.f k a0_0 l0_1 a1 = some (r1, r2)) :
  Calls Try.prog 27 #[.agg #[.int .i64 a0_0, u9000_], .int .i64 a1] w fun e w' => e = .returned (.int .i64 r1) ∧ Kd.R (Kd.int .i64) 3 w' w0.heap.size (fun k_ => (P0_1_ k_ ∨ w.heap.size ≤ k_)) u9000_ r2 ∧ Below w0.heap.size w0 w' ∧ Kept w w' (fun k_ => P0_1_ k_) := by
 have hu46 := Try.underlying46
 have HO0_1 := Am (show Kd.R (Kd.int .i64) 3 w w0.heap.size (fun k_ => (P0_1_ k_ ∨ w.heap.size ≤ k_)) u9000_ l0_1 from Kd.R_mono ho0_1 (fun k_ hk => (.inl hk)))
 have HK := Am (Kept.refl w (fun k_ => P0_1_ k_))
 have HW0 := Am hB.size
 have HB := Am hB
 clear hB
 have H : ((laws_markIntS.f k l0_1 a1).bind fun bt371 => (some (bt371.1, bt371.2))) = some (r1, r2) := h
 clear h
 replace H := Option.bind_eq_some_iff.mp H
 obtain ⟨⟨t371, t372⟩, A30, H⟩ := H
 replace H : (some (t371, t372)) = some (r1, r2) := H
 have A3 := Am A30
 clear A30
 simp only [Option.some.injEq, Prod.mk.injEq] at H
 obtain ⟨rfl, rfl⟩ := H
 obtain ⟨Ao4, co4, eo4⟩ := Kd.R_slice HO0_1.out
 subst eo4
 go_enter Try.func27, Try.ntmps27
 go_wp2_with (first | ((refine Gd (N := 2) rfl ?_); refine Be ?hg (N := 2) ?hd (cs := #[.int .i64 a0_0, .slice Ao4 l0_1.length co4]) (t := 46) ?hr ?_; (case hd | hg => rfl); (case hr => first | (go_simp; done) | (go_simp; rfl)); intro gb370 hg w5 hbox hb; have n0_ := Am (Kd.R_below (by (with_reducible repeat (first | apply Ra | apply Rn | apply Rd)); exact HO0_1.out) hb); have n1_ := Am (Kept.below (S := (fun k_ => P0_1_ k_)) (by repeat (first | (with_reducible first | exact HK.out | apply Kept.alloc | apply Kept.drewN | apply Kept.drew) | exact HK.out)) hb); have n2_ := Am (Bt (by repeat (first | exact HB.out | apply Ba | apply Bn | apply Bd)) hb); have n3_ := Am (hbox); have n4_ := Am ((by rw [hg]; exact (by first | exact HK.out.1 | exact (show Kept w _ (fun k_ => P0_1_ k_) from by repeat (first | (with_reducible first | exact HK.out | apply Kept.alloc | apply Kept.drewN | apply Kept.drew) | exact HK.out)).1) : w.heap.size ≤ gb370)); have n5_ := Am ((by rw [hg]; exact (Bz (by repeat (first | exact HB.out | apply Ba | apply Bn | apply Bd))) : w0.heap.size ≤ gb370)); clear HO0_1; clear HK; clear HB; have HO0_1 := n0_; have HK := n1_; have HB := n2_; have BK370 := n3_; have GW370 := n4_; have GE370 := n5_; clear n0_ n1_ n2_ n3_ n4_ n5_; clear hb hbox hg; have hcz6_0 : w5.cell? ⟨gb370, 0, none⟩ = some (.int .i64 a0_0) := (Kc BK370.out 0).trans rfl; have hcz6_1 : w5.cell? ⟨gb370, 1, none⟩ = some (.slice Ao4 l0_1.length co4) := (Kc BK370.out 1).trans rfl; have hfz6_0 := Kz BK370.out 0; have hfz6_1 := Kz BK370.out 1) | ((refine Gc (f := 56) rfl ?_); refine goesL_ (some 8) rfl rfl Try.func56 (by kernel_rfl) rfl #[.slice Ao4 l0_1.length co4, .int .i64 a1] rfl (by first | rfl | (simp only [List.map_toArray, List.map_cons, List.map_nil]; first | done | rfl)) ?_; (with_reducible refine (laws_markIntS.calls k (fun k_ => some k_ = (.slice Ao4 l0_1.length co4 : Value).ownBlock) (.slice Ao4 l0_1.length co4) l0_1 a1 t371 t372 w0 _ ?side1 ?side2 A3.out).mono ?_); (case side1 => repeat (first | (with_reducible first | exact HB.out | apply Ba | apply Bn | apply Bd | refine Bs ?_ GE370.out) | exact HB.out)); (case side2 => exact Kd.R_tight rfl HO0_1.out); rintro e w7 ⟨rfl, hy0, hb, hkp⟩; refine ⟨_, rfl, ?_⟩; have n0_ := Am (Kd.R_reok rfl hy0 (fun k_ e_ => HO0_1.out.1 k_ e_)); have n1_ := Am (blk_kept (by (with_reducible repeat (first | refine Kn ?_ _ | refine Ke ?_ | refine Ka ?_ _)); exact BK370.out) hkp (fun hs_ => (fun e_ => (Kd.R_ne HO0_1.out BK370.out (by decide)) e_) hs_)); have n2_ := Am (Kept.then_ (S := (fun k_ => P0_1_ k_)) (by repeat (first | (with_reducible first | exact HK.out | apply Kept.alloc | apply Kept.drewN | apply Kept.drew | refine Kept.setCell ?_ (.inr GW370.out) _) | exact HK.out)) hkp (fun k_ hs_ => (fun e_ => (HO0_1.out.1 k_ e_.symm)) hs_)); have n3_ := Am (hb); clear HO0_1; clear BK370; clear HK; clear HB; have HO0_1 := n0_; have BK370 := n1_; have HK := n2_; have HB := n3_; clear n0_ n1_ n2_ n3_; (try clear hb); (try clear hkp); (try clear hy0)))
 go_ret
 exact ⟨by first | rfl | (simp [*, errW_none, errW_some] <;> rfl), by (with_reducible repeat (first | apply Ra | apply Rn | apply Rd)); exact HO0_1.out, by repeat (first | (with_reducible first | exact HB.out | apply Ba | apply Bn | apply Bd | refine Bs ?_ GE370.out) | exact HB.out), by repeat (first | (with_reducible first | exact HK.out | apply Kept.alloc | apply Kept.drewN | apply Kept.drew | refine Kept.setCell ?_ (.inr GW370.out) _) | exact HK.out)⟩
def laws_heldIntS.l0 : Nat → List Int → Int → Int → Option (Int)
 | 0, _, _, _ => none
 | k + 1, x0, x1, x5 => if x5 < (x0.length : Int) then (if 0 ≤ x5 then (if (rd x0 x5) = x1 then (laws_heldIntS.l0 k x0 (wrap64 (x1 + 1)) (wrap64 (x5 + 1))) else (some (-1))) else (none)) else (some x1)
def laws_heldIntS.f (k : Nat) (l0 : List Int) (a1 : Int) : Option (Int) := laws_heldIntS.l0 k l0 a1 0
theorem laws_heldIntS.mono_l : ∀ k, (∀ y0 y1 y2, LeO (laws_heldIntS.l0 k y0 y1 y2) (laws_heldIntS.l0 (k + 1) y0 y1 y2))
 | 0 => fun _ _ _ r h => by simp [laws_heldIntS.l0] at h
 | k + 1 => by
  have ih0 := laws_heldIntS.mono_l k
  ·intro y0 y1 y2
   unfold laws_heldIntS.l0
   repeat' first
   | (with_reducible exact ih0 _ _ _)
   | (with_reducible exact LeO.refl _)
   | (with_reducible exact LeO.none _)
   | (with_reducible refine LeO.ite ?_ ?_)
   | (with_reducible refine LeO.bind ?_ (fun _ => ?_))
   | exact ih0 _ _ _
   | exact LeO.none _
   | refine LeO.ite ?_ ?_
   | refine LeO.bind ?_ (fun _ => ?_)
theorem laws_heldIntS.mono : ∀ a0 a1 k, LeO (laws_heldIntS.f k a0 a1) (laws_heldIntS.f (k + 1) a0 a1) := by
 intro a0 a1 k
 have ih0 := laws_heldIntS.mono_l k
 unfold laws_heldIntS.f
 repeat' first
   | (with_reducible exact ih0 _ _ _)
   | (with_reducible exact LeO.refl _)
   | (with_reducible exact LeO.none _)
   | (with_reducible refine LeO.ite ?_ ?_)
   | (with_reducible refine LeO.bind ?_ (fun _ => ?_))
   | exact ih0 _ _ _
   | exact LeO.none _
   | refine LeO.ite ?_ ?_
   | refine LeO.bind ?_ (fun _ => ?_)
set_option maxHeartbeats 8000000 in
set_option maxRecDepth 100000 in
theorem laws_heldIntS.calls (k : Nat) (A0 : Option Addr) (c0 : Nat) (l0 : List Int) (a1 : Int) (r : Int) (w : World) (hr0 : Kd.C (Kd.int .i64) w A0 l0.length l0) (hc0 : l0.length ≤ c0) (h : laws_heldIntS.f k l0 a1 = some r) :
  Calls Try.prog 57 #[.slice A0 l0.length c0, .int .i64 a1] w fun e w' => e = .returned (.int .i64 r) ∧ Drawn0 w w' := by
 have HR0 := Am hr0
 have HC0 := Am hc0
 clear hr0 hc0
 have H : (laws_heldIntS.l0 k l0 a1 0) = some r := h
 clear h
 have H' := Am H
 clear H
 go_enter Try.func57, Try.ntmps57
 go_wp2
 go_loopg [1, 5] k (fun kq v1 v5 w' => ∃ (x1_1 : Int) (x5_1 : Int), v1 = .int .i64 x1_1 ∧ v5 = .int .i64 x5_1 ∧ Ad (laws_heldIntS.l0 kq l0 x1_1 x5_1 = some r) ∧ Ad (kq ≤ k) ∧ Drawn0 w w')
 case atStart => exact ⟨(a1), (0), (by first | rfl | (simp; done) | (simp [*]; done)), (by first | rfl | (simp; done) | (simp [*]; done)), H', ⟨Nat.le_refl _⟩, by repeat (first | exact Drawn0.refl _ | apply Drawn0.step)⟩
 case round =>
  clear H'
  try clear p2
  obtain ⟨x1_1, x5_1, rfl, rfl, HA, HK1, ⟨m1, rfl⟩⟩ := hrel
  cases gk with
  | zero => exact absurd HA.out (by simp [laws_heldIntS.l0])
  | succ k1 =>
   have H := HA.out
   clear HA
   simp only [laws_heldIntS.l0] at H
   by_cases c3 : x5_1 < (l0.length : Int)
   ·rw [if_pos c3] at H
    have c3b0 : decide (x5_1 < (l0.length : Int)) = true := decide_eq_true c3
    clear c3
    by_cases c4 : 0 ≤ x5_1
    ·rw [if_pos c4] at H
     have c4b0 : decide (0 ≤ x5_1) = true := decide_eq_true c4
     clear c4
     by_cases c5 : (rd l0 x5_1) = x1_1
     ·rw [if_pos c5] at H
      have c5b0 : ((rd l0 x5_1) == x1_1) = true := beq_iff_eq.mpr c5
      have c5b1 : ((rd l0 x5_1) != x1_1) = false := bne_eq_false_iff_eq.mpr c5
      clear c5
      have H' := Am H
      clear H
      have p373 : 0 ≤ (x5_1 : Int) := of_decide_eq_true (by assumption)
      have q373 : x5_1 < (l0.length : Int) := of_decide_eq_true (by assumption)
      obtain ⟨ad373, e373, hx373_0⟩ := Kd.at_int HR0.out x5_1 p373 q373
      cases e373
      replace p373 := eq_true p373
      replace q373 := eq_true q373
      go_wp2
      go_roundg k1
      case measure => have := HK1.out; omega
      case rel => exact ⟨(wrap64 (x1_1 + 1)), (wrap64 (x5_1 + 1)), (by first | rfl | (simp; done) | (simp [*]; done)), (by first | rfl | (simp; done) | (simp [*]; done)), H', ⟨by have := HK1.out; omega⟩, by repeat (first | exact Drawn0.refl _ | apply Drawn0.step)⟩
     ·rw [if_neg c5] at H
      have c5b0 : ((rd l0 x5_1) == x1_1) = false := beq_eq_false_iff_ne.mpr c5
      have c5b1 : ((rd l0 x5_1) != x1_1) = true := bne_iff_ne.mpr c5
      obtain rfl := Option.some.inj H
      have p373 : 0 ≤ (x5_1 : Int) := of_decide_eq_true (by assumption)
      have q373 : x5_1 < (l0.length : Int) := of_decide_eq_true (by assumption)
      obtain ⟨ad373, e373, hx373_0⟩ := Kd.at_int HR0.out x5_1 p373 q373
      cases e373
      replace p373 := eq_true p373
      replace q373 := eq_true q373
      go_wp2
      go_ret
      exact ⟨by first | rfl | (simp; done) | (simp [*]; done), by repeat (first | exact Drawn0.refl _ | apply Drawn0.step)⟩
    ·rw [if_neg c4] at H
     exact absurd H (by simp)
   ·rw [if_neg c3] at H
    have c3b0 : decide (x5_1 < (l0.length : Int)) = false := decide_eq_false c3
    clear c3
    obtain rfl := Option.some.inj H
    go_wp2
    go_ret
    exact ⟨by first | rfl | (simp; done) | (simp [*]; done), by repeat (first | exact Drawn0.refl _ | apply Drawn0.step)⟩
def laws_heldAttr.f (k : Nat) (a0_0 : Int) (l0_1 : List Int) (a1 : Int) : Option (Int) := (laws_heldIntS.f k l0_1 a1).bind fun t375 => (if t375 < 0 then (some (-1)) else (some t375))
theorem laws_heldAttr.mono : ∀ a0 a1 a2 k, LeO (laws_heldAttr.f k a0 a1 a2) (laws_heldAttr.f (k + 1) a0 a1 a2) := by
 intro a0 a1 a2 k
 unfold laws_heldAttr.f
 repeat' first
   | (with_reducible exact laws_heldIntS.mono _ _ _)
   | (with_reducible exact LeO.refl _)
   | (with_reducible exact LeO.none _)
   | (with_reducible refine LeO.ite ?_ ?_)
   | (with_reducible refine LeO.bind ?_ (fun _ => ?_))
   | exact laws_heldIntS.mono _ _ _
   | exact LeO.none _
   | refine LeO.ite ?_ ?_
   | refine LeO.bind ?_ (fun _ => ?_)
set_option maxHeartbeats 8000000 in
set_option maxRecDepth 100000 in
theorem laws_heldAttr.calls (k : Nat) (a0_0 : Int) (A0_1 : Option Addr) (c0_1 : Nat) (l0_1 : List Int) (a1 : Int) (r : Int) (w : World) (hr0_1 : Kd.C (Kd.int .i64) w A0_1 l0_1.length l0_1) (hc0_1 : l0_1.length ≤ c0_1) (h : laws_heldAttr.f k a0_0 l0_1 a1 = some r) :
  Calls Try.prog 28 #[.agg #[.int .i64 a0_0, .slice A0_1 l0_1.length c0_1], .int .i64 a1] w fun e w' => e = .returned (.int .i64 r) ∧ Below w.heap.size w w' := by
 have hu46 := Try.underlying46
 have HR0_1 := Am hr0_1
 have HC0_1 := Am hc0_1
 clear hr0_1 hc0_1
 have HB := Am (Below.refl w.heap.size w)
 have H : ((laws_heldIntS.f k l0_1 a1).bind fun t375 => (if t375 < 0 then (some (-1)) else (some t375))) = some r := h
 clear h
 replace H := Option.bind_eq_some_iff.mp H
 obtain ⟨t375, A30, H⟩ := H
 replace H : (if t375 < 0 then (some (-1)) else (some t375)) = some r := H
 have A3 := Am A30
 clear A30
 by_cases c4 : t375 < 0
 ·rw [if_pos c4] at H
  have c4b0 : decide (t375 < 0) = true := decide_eq_true c4
  clear c4
  obtain rfl := Option.some.inj H
  go_enter Try.func28, Try.ntmps28
  go_wp2_with (first | ((refine Gd (N := 2) rfl ?_); refine Be ?hg (N := 2) ?hd (cs := #[.int .i64 a0_0, .slice A0_1 l0_1.length c0_1]) (t := 46) ?hr ?_; (case hd | hg => rfl); (case hr => first | (go_simp; done) | (go_simp; rfl)); intro gb374 hg w5 hbox hb; have n0_ := Am (Bt (by repeat (first | exact HB.out | apply Ba | apply Bn | apply Bd)) hb); have n1_ := Am (hbox); have n2_ := Am ((by rw [hg]; exact (Bz (by repeat (first | exact HB.out | apply Ba | apply Bn | apply Bd))) : w.heap.size ≤ gb374)); have n3_ := Am ((by rw [hg]; exact (Bz (by repeat (first | exact HB.out | apply Ba | apply Bn | apply Bd))) : w.heap.size ≤ gb374)); clear HB; have HB := n0_; have BK374 := n1_; have GW374 := n2_; have GE374 := n3_; clear n0_ n1_ n2_ n3_; clear hb hbox hg; have hcz6_0 : w5.cell? ⟨gb374, 0, none⟩ = some (.int .i64 a0_0) := (Kc BK374.out 0).trans rfl; have hcz6_1 : w5.cell? ⟨gb374, 1, none⟩ = some (.slice A0_1 l0_1.length c0_1) := (Kc BK374.out 1).trans rfl; have hfz6_0 := Kz BK374.out 0; have hfz6_1 := Kz BK374.out 1) | ((refine Gc (f := 57) rfl ?_); refine goesL_ (some 8) rfl rfl Try.func57 (by kernel_rfl) rfl #[.slice A0_1 l0_1.length c0_1, .int .i64 a1] rfl (by first | rfl | (simp only [List.map_toArray, List.map_cons, List.map_nil]; first | done | rfl)) ?_; (with_reducible refine (laws_heldIntS.calls k _ _ l0_1 a1 t375 _ ?side1 ?side2 A3.out).mono ?_); (case side1 => repeat (first | exact (Kd.C_below HR0_1.out HB.out) | (with_reducible refine Kd.C_alloc ?_ _) | (with_reducible refine Kd.C_drewN ?_ _) | (with_reducible refine Kd.C_drew ?_))); (case side2 => exact HC0_1.out); rintro e w' ⟨rfl, ⟨nd, rfl⟩⟩; refine ⟨_, rfl, ?_⟩))
  go_ret
  exact ⟨by first | rfl | (simp [*, errW_none, errW_some] <;> rfl), by repeat (first | (with_reducible first | exact HB.out | apply Ba | apply Bn | apply Bd | refine Bs ?_ GE374.out) | exact HB.out)⟩
 ·rw [if_neg c4] at H
  have c4b0 : decide (t375 < 0) = false := decide_eq_false c4
  clear c4
  obtain rfl := Option.some.inj H
  go_enter Try.func28, Try.ntmps28
  go_wp2_with (first | ((refine Gd (N := 2) rfl ?_); refine Be ?hg (N := 2) ?hd (cs := #[.int .i64 a0_0, .slice A0_1 l0_1.length c0_1]) (t := 46) ?hr ?_; (case hd | hg => rfl); (case hr => first | (go_simp; done) | (go_simp; rfl)); intro gb374 hg w7 hbox hb; have n0_ := Am (Bt (by repeat (first | exact HB.out | apply Ba | apply Bn | apply Bd)) hb); have n1_ := Am (hbox); have n2_ := Am ((by rw [hg]; exact (Bz (by repeat (first | exact HB.out | apply Ba | apply Bn | apply Bd))) : w.heap.size ≤ gb374)); have n3_ := Am ((by rw [hg]; exact (Bz (by repeat (first | exact HB.out | apply Ba | apply Bn | apply Bd))) : w.heap.size ≤ gb374)); clear HB; have HB := n0_; have BK374 := n1_; have GW374 := n2_; have GE374 := n3_; clear n0_ n1_ n2_ n3_; clear hb hbox hg; have hcz8_0 : w7.cell? ⟨gb374, 0, none⟩ = some (.int .i64 a0_0) := (Kc BK374.out 0).trans rfl; have hcz8_1 : w7.cell? ⟨gb374, 1, none⟩ = some (.slice A0_1 l0_1.length c0_1) := (Kc BK374.out 1).trans rfl; have hfz8_0 := Kz BK374.out 0; have hfz8_1 := Kz BK374.out 1) | ((refine Gc (f := 57) rfl ?_); refine goesL_ (some 8) rfl rfl Try.func57 (by kernel_rfl) rfl #[.slice A0_1 l0_1.length c0_1, .int .i64 a1] rfl (by first | rfl | (simp only [List.map_toArray, List.map_cons, List.map_nil]; first | done | rfl)) ?_; (with_reducible refine (laws_heldIntS.calls k _ _ l0_1 a1 t375 _ ?side1 ?side2 A3.out).mono ?_); (case side1 => repeat (first | exact (Kd.C_below HR0_1.out HB.out) | (with_reducible refine Kd.C_alloc ?_ _) | (with_reducible refine Kd.C_drewN ?_ _) | (with_reducible refine Kd.C_drew ?_))); (case side2 => exact HC0_1.out); rintro e w' ⟨rfl, ⟨nd, rfl⟩⟩; refine ⟨_, rfl, ?_⟩))
  go_ret
  exact ⟨by first | rfl | (simp [*, errW_none, errW_some] <;> rfl), by repeat (first | (with_reducible first | exact HB.out | apply Ba | apply Bn | apply Bd | refine Bs ?_ GE374.out) | exact HB.out)⟩
end Go.Proofs.Ytacpjifbgnlppaa.QFnExactAttrFor
