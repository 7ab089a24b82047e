/- The law FnExactTotalOf holds, for every input. -/
import Derived.Test.YtjecngfaadejcaaQFnExactTotalOfx2
import Derived.Test.YtjecngfaadejcaaMine
namespace Go.Proofs.Ytjecngfaadejcaa.Pure
open Go.RowKit Go.Proofs.Ytjecngfaadejcaa.QFnExactTotalOf Go.Proofs.YtjecngfaadejcaaW.PrintWords Go.Proofs.YtjecngfaadejcaaW.PrintLast Go.Proofs.YtjecngfaadejcaaW.PrintMore
set_option linter.unusedVariables false
set_option linter.unusedSimpArgs false

theorem wrap_next {i : Nat} {n : Nat} (h : i < n) (hn : n ≤ 9223372036854775807) : wrap64 ((i : Int) + 1) = ((i + 1 : Nat) : Int) := by
  unfold wrap64
  omega
theorem rd_nat (l : List Int) (i : Nat) : rd l (i : Int) = l.getD i 0 := by unfold rd; rw [Int.toNat_natCast]

theorem toIntS_l (xs : List Int) (hm : xs.length ≤ 9223372036854775807) : ∀ (d i : Nat) (acc : List Int), xs.length - i = d → i ≤ xs.length → acc.length = xs.length → acc.take i = xs.take i → Ev (fun k => laws_toIntS.l0 k xs acc (i : Int)) xs := by
  intro d
  induction d with
  | zero =>
    intro i acc hd hi hl ht
    have e : acc = xs := Mine.take_all (i := i) (by omega) hl ht
    exact Ev.step (f := fun _ => some xs) (fun k => by simp only [laws_toIntS.l0]; rw [if_neg (by omega), e]) (Ev.now _)
  | succ d ih =>
    intro i acc hd hi hl ht
    refine Ev.step (f := fun k => laws_toIntS.l0 k xs (acc.set i (xs.getD i 0)) ((i + 1 : Nat) : Int)) (fun k => ?_) (ih (i + 1) _ (by omega) (by omega) (by simpa using hl) (Mine.take_set xs acc 0 i (by omega) hl ht))
    simp only [laws_toIntS.l0]
    rw [if_pos (by omega), if_pos (by omega), if_pos (by omega), wrap_next (n := xs.length) (by omega) hm, rd_nat, Int.toNat_natCast]
/-- A copy of numbers. -/
theorem toIntS_ev (xs : List Int) (hm : xs.length ≤ 1048576) : Ev (fun k => laws_toIntS.f k xs) xs := by
  refine Ev.congr (f := fun k => laws_toIntS.l0 k xs (List.replicate xs.length 0) ((0 : Nat) : Int)) (fun k => ?_) (toIntS_l xs (by omega) _ 0 _ rfl (by omega) (by simp) (by simp))
  unfold laws_toIntS.f
  rw [if_pos (by omega), if_pos (by omega)]
  simp

theorem eqIntS_l (xs : List Int) (hm : xs.length ≤ 9223372036854775807) : ∀ (d i : Nat), xs.length - i = d → Ev (fun k => laws_eqIntS.l0 k xs xs (i : Int)) true := by
  intro d
  induction d with
  | zero => intro i hd; exact Ev.step (f := fun _ => some true) (fun k => by simp only [laws_eqIntS.l0]; rw [if_neg (by omega)]) (Ev.now _)
  | succ d ih =>
    intro i hd
    refine Ev.step (f := fun k => laws_eqIntS.l0 k xs xs ((i + 1 : Nat) : Int)) (fun k => ?_) (ih (i + 1) (by omega))
    simp only [laws_eqIntS.l0]
    rw [if_pos (by omega), if_pos (by omega), if_pos (by omega), if_pos trivial, wrap_next (n := xs.length) (by omega) hm]
/-- Numbers are the same as themselves. -/
theorem eqIntS_ev (xs : List Int) (hm : xs.length ≤ 9223372036854775807) : Ev (fun k => laws_eqIntS.f k xs xs) true := by
  refine Ev.congr (f := fun k => laws_eqIntS.l0 k xs xs ((0 : Nat) : Int)) (fun k => ?_) (eqIntS_l xs hm _ 0 rfl)
  unfold laws_eqIntS.f
  rw [if_pos rfl]
  rfl

theorem l1In_f (a b c : Int) : spec_l1In.f a b c = some (Mine.inB b c a) := by
  unfold spec_l1In.f Mine.inB
  by_cases h : a ≥ b
  · rw [if_pos h]; simp [show b ≤ a from h]
  · rw [if_neg h]; simp [show ¬ b ≤ a from h]

def goodSumsB (l : List Int) : Bool := decide ((l.length : Int) = 4) && (!Mine.anyP (Mine.outB 0 400) l && (Mine.sumW wrap64 l == 400))
theorem specSums_l (xs : List Int) (hm : xs.length ≤ 9223372036854775807) : ∀ (d i : Nat) (a : Int), xs.length - i = d → Ev (fun k => spec_GoodSums.l0 k xs a xs (xs.length : Int) (i : Int)) (decide ((xs.length : Int) = 4) && (!Mine.anyP (Mine.outB 0 400) (xs.drop i) && ((xs.drop i).foldl (fun a x => wrap64 (a + x)) a == 400))) := by
  intro d
  induction d with
  | zero =>
    intro i a hd
    rw [List.drop_eq_nil_of_le (by omega)]
    refine Ev.step (f := fun _ => some _) (fun k => ?_) (Ev.now _)
    simp only [spec_GoodSums.l0]
    rw [if_neg (by omega)]
    by_cases h : (xs.length : Int) = 4
    · rw [if_pos h, decide_eq_true h]; simp [Mine.anyP]
    · rw [if_neg h, decide_eq_false h]; simp
  | succ d ih =>
    intro i a hd
    have hlt : i < xs.length := by omega
    rw [Mine.drop_at xs 0 i hlt, Mine.anyP_cons, List.foldl_cons]
    have body : ∀ k, spec_GoodSums.l0 (k + 1) xs a xs (xs.length : Int) (i : Int) = if Mine.inB 0 400 (xs.getD i 0) = true then spec_GoodSums.l0 k xs (wrap64 (a + xs.getD i 0)) xs (xs.length : Int) ((i + 1 : Nat) : Int) else some false := by
      intro k
      simp only [spec_GoodSums.l0]
      rw [if_pos (by omega), if_pos (by omega), if_pos (by omega), rd_nat, l1In_f, Option.bind_some, wrap_next hlt hm]
    cases hb : Mine.inB 0 400 (xs.getD i 0) with
    | true =>
      refine Ev.step (f := fun k => spec_GoodSums.l0 k xs (wrap64 (a + xs.getD i 0)) xs (xs.length : Int) ((i + 1 : Nat) : Int)) (fun k => by rw [body, if_pos hb]) ?_
      have : Mine.outB 0 400 (xs.getD i 0) = false := by unfold Mine.outB; rw [hb]; rfl
      rw [this, Bool.false_or]
      exact ih (i + 1) _ (by omega)
    | false =>
      refine Ev.step (f := fun _ => some false) (fun k => by rw [body, if_neg (by rw [hb]; simp)]) ?_
      have : Mine.outB 0 400 (xs.getD i 0) = true := by unfold Mine.outB; rw [hb]; rfl
      rw [this, Bool.true_or, Bool.not_true, Bool.false_and, Bool.and_false]
      exact Ev.now _
theorem specSums_ev (xs : List Int) (hm : xs.length ≤ 9223372036854775807) : Ev (fun k => spec_GoodSums.f k xs) (goodSumsB xs) := specSums_l xs hm _ 0 0 rfl

theorem within_f (a b c : Int) : impl_within.f a b c = some (Mine.inB b c a) := by
  unfold impl_within.f Mine.inB
  by_cases h : b ≤ a
  · rw [if_pos h]; simp [h]
  · rw [if_neg h]; simp [h]

theorem total_l (xs : List Int) (hm : xs.length ≤ 9223372036854775807) : ∀ (d i : Nat) (a : Int), xs.length - i = d → Ev (fun k => impl_total.l0 k a xs (xs.length : Int) (i : Int)) ((xs.drop i).foldl (fun a x => wrap64 (a + x)) a) := by
  intro d
  induction d with
  | zero =>
    intro i a hd
    rw [List.drop_eq_nil_of_le (by omega)]
    exact Ev.step (f := fun _ => some a) (fun k => by simp only [impl_total.l0]; rw [if_neg (by omega)]) (Ev.now _)
  | succ d ih =>
    intro i a hd
    have hlt : i < xs.length := by omega
    rw [Mine.drop_at xs 0 i hlt, List.foldl_cons]
    refine Ev.step (f := fun k => impl_total.l0 k (wrap64 (a + xs.getD i 0)) xs (xs.length : Int) ((i + 1 : Nat) : Int)) (fun k => ?_) (ih (i + 1) _ (by omega))
    simp only [impl_total.l0]
    rw [if_pos (by omega), if_pos (by omega), if_pos (by omega), rd_nat, wrap_next hlt hm]
theorem total_ev (xs : List Int) (hm : xs.length ≤ 9223372036854775807) : Ev (fun k => impl_total.f k xs) (Mine.sumW wrap64 xs) := total_l xs hm _ 0 0 rfl

theorem implSums_ev (xs : List Int) (hm : xs.length ≤ 9223372036854775807) : Ev (fun k => impl_GoodSums.f k xs) (goodSumsB xs) := by
  unfold impl_GoodSums.f goodSumsB
  by_cases h : (xs.length : Int) = 4
  · rw [decide_eq_true h, Bool.true_and]
    cases ha : Mine.anyP (Mine.outB 0 400) xs with
    | true => exact Ev.congr (f := fun _ => some false) (fun k => by rw [if_pos h, if_pos rfl]) (Ev.now _)
    | false =>
      refine Ev.congr (f := fun k => (impl_total.f k xs).bind fun t => some (t == 400)) (fun k => by rw [if_pos h, if_neg (by simp)]) ?_
      exact Ev.bind (total_ev xs hm) (Ev.now _)
  · rw [decide_eq_false h, Bool.false_and]
    exact Ev.congr (f := fun _ => some false) (fun k => by rw [if_neg h]) (Ev.now _)

theorem FnExactTotalOf : laws_FnExactTotalOf.Pure := by
  rintro l ⟨hl, _⟩
  by_cases h1 : (l.length : Int) > 1048576
  · exact ⟨0, by unfold laws_FnExactTotalOf.f; rw [if_pos h1]⟩
  obtain ⟨K1, k1⟩ := toIntS_ev l (by omega)
  obtain ⟨K2, k2⟩ := specSums_ev l hl
  obtain ⟨K3, k3⟩ := implSums_ev l hl
  obtain ⟨K4, k4⟩ := eqIntS_ev l hl
  obtain ⟨K5, k5⟩ := total_ev l hl
  dsimp only at k1 k2 k3 k4 k5
  refine ⟨K1 + K2 + K3 + K4 + K5 + 1, ?_⟩
  unfold laws_FnExactTotalOf.f spec_TotalOf.f impl_TotalOf.f
  rw [if_neg h1]
  simp only [k1 _ (show K1 ≤ K1 + K2 + K3 + K4 + K5 + 1 by omega), k2 _ (show K2 ≤ K1 + K2 + K3 + K4 + K5 + 1 by omega), k3 _ (show K3 ≤ K1 + K2 + K3 + K4 + K5 + 1 by omega), k5 _ (show K5 ≤ K1 + K2 + K3 + K4 + K5 + 1 by omega), Option.bind_some]
  have hj : laws_FnExactTotalOf.j0 (K1 + K2 + K3 + K4 + K5 + 1) l l false = some true := by
    simp only [laws_FnExactTotalOf.j0]
    rw [if_neg (by simp), k1 _ (by omega), Option.bind_some, k4 _ (by omega)]
    rfl
  have hb : goodSumsB l = true → Mine.sumW wrap64 l = 400 := by
    intro h
    simp only [goodSumsB, Bool.and_eq_true, beq_iff_eq] at h
    exact h.2.2
  cases hg : goodSumsB l with
  | false => simpa using hj
  | true => simp only [if_true, Option.bind_some]; rw [hb hg]; simpa using hj

end Go.Proofs.Ytjecngfaadejcaa.Pure
