/- The law FnExactSameAttr holds, for every input. -/
import Derived.Test.YtjecngfaadejcaaQFnExactSameAttrx3
import Derived.Test.YtjecngfaadejcaaMine
namespace Go.Proofs.Ytjecngfaadejcaa.Pure
open Go.RowKit Go.Proofs.Ytjecngfaadejcaa.QFnExactSameAttr Go.Proofs.YtjecngfaadejcaaW.PrintWords Go.Proofs.YtjecngfaadejcaaW.PrintLast Go.Proofs.YtjecngfaadejcaaW.PrintMore
set_option linter.unusedVariables false
set_option linter.unusedSimpArgs false

theorem wrap_next {i : Nat} {n : Nat} (h : i < n) (hn : n ≤ 9223372036854775807) : wrap64 ((i : Int) + 1) = ((i + 1 : Nat) : Int) := by
  unfold wrap64
  omega
theorem rd_nat (l : List Int) (i : Nat) : rd l (i : Int) = l.getD i 0 := by unfold rd; rw [Int.toNat_natCast]

theorem eqIntS_l (xs : List Int) (hm : xs.length ≤ 9223372036854775807) : ∀ (d i : Nat), xs.length - i = d → Ev (fun k => laws_eqIntS.l0 k xs xs (i : Int)) true := by
  intro d
  induction d with
  | zero => intro i hd; exact Ev.step (f := fun _ => some true) (fun k => by simp only [laws_eqIntS.l0]; rw [if_neg (by omega)]) (Ev.now _)
  | succ d ih =>
    intro i hd
    refine Ev.step (f := fun k => laws_eqIntS.l0 k xs xs ((i + 1 : Nat) : Int)) (fun k => ?_) (ih (i + 1) (by omega))
    simp only [laws_eqIntS.l0]
    rw [if_pos (by omega), if_pos (by omega), if_pos (by omega), if_pos trivial, wrap_next (n := xs.length) (by omega) hm]
/-- Numbers are the same as themselves. -/
theorem eqIntS_ev (xs : List Int) (hm : xs.length ≤ 9223372036854775807) : Ev (fun k => laws_eqIntS.f k xs xs) true := by
  refine Ev.congr (f := fun k => laws_eqIntS.l0 k xs xs ((0 : Nat) : Int)) (fun k => ?_) (eqIntS_l xs hm _ 0 rfl)
  unfold laws_eqIntS.f
  rw [if_pos rfl]
  rfl

theorem eqAttr_ev (s : Int) (l : List Int) (hm : l.length ≤ 9223372036854775807) : Ev (fun k => laws_eqAttr.f k s l s l) true := by
  unfold laws_eqAttr.f
  refine Ev.congr (f := fun k => (laws_eqIntS.f k l l).bind fun t => if t = true then some true else some false) (fun k => by rw [if_pos rfl]) (Ev.bind (eqIntS_ev l hm) (Ev.now _))

theorem szIntS_f (l : List Int) (a : Int) (h0 : 0 ≤ a) (h1 : a ≤ 1048576) (hl : l.length ≤ 9223372036854775807) : laws_szIntS.f l a = some (if (l.length : Int) ≤ a then a - (l.length : Int) else -1) := by
  have hw : wrap64 (a - (l.length : Int)) = a - (l.length : Int) := by unfold wrap64; omega
  unfold laws_szIntS.f
  rw [hw]
  by_cases h : (l.length : Int) ≤ a
  · rw [if_neg (by omega), if_pos h]
  · rw [if_pos (by omega), if_neg h]

theorem szAttr_f (s : Int) (l : List Int) (a : Int) (h0 : 0 ≤ a) (h1 : a ≤ 1048576) (hl : l.length ≤ 9223372036854775807) : laws_szAttr.f s l a = some (if (l.length : Int) ≤ a then a - (l.length : Int) else -1) := by
  unfold laws_szAttr.f
  rw [szIntS_f l a h0 h1 hl, Option.bind_some]
  by_cases h : (l.length : Int) ≤ a
  · rw [if_pos h, if_neg (by omega)]
  · rw [if_neg h, if_pos (by omega)]

theorem l1Same_l (xs ys : List Int) (he : xs.length = ys.length) (hm : xs.length ≤ 9223372036854775807) : ∀ (d i : Nat), xs.length - i = d → Ev (fun k => spec_l1Same.l0 k xs ys (xs.length : Int) (i : Int)) (decide (xs.drop i = ys.drop i)) := by
  intro d
  induction d with
  | zero =>
    intro i hd
    rw [List.drop_eq_nil_of_le (show xs.length ≤ i by omega), List.drop_eq_nil_of_le (show ys.length ≤ i by omega)]
    exact Ev.step (f := fun _ => some true) (fun k => by simp only [spec_l1Same.l0]; rw [if_neg (by omega)]) (Ev.now _)
  | succ d ih =>
    intro i hd
    have hlt : i < xs.length := by omega
    rw [Mine.drop_at xs 0 i hlt, Mine.drop_at ys 0 i (by omega)]
    have body : ∀ k, spec_l1Same.l0 (k + 1) xs ys (xs.length : Int) (i : Int) = if xs.getD i 0 = ys.getD i 0 then spec_l1Same.l0 k xs ys (xs.length : Int) ((i + 1 : Nat) : Int) else some false := by
      intro k
      simp only [spec_l1Same.l0]
      rw [if_pos (by omega), if_pos (by omega), if_pos (by omega), if_pos (by omega), rd_nat, rd_nat, wrap_next hlt hm]
    by_cases hb : xs.getD i 0 = ys.getD i 0
    · refine Ev.step (f := fun k => spec_l1Same.l0 k xs ys (xs.length : Int) ((i + 1 : Nat) : Int)) (fun k => by rw [body, if_pos hb]) ?_
      have : decide (xs.getD i 0 :: xs.drop (i + 1) = ys.getD i 0 :: ys.drop (i + 1)) = decide (xs.drop (i + 1) = ys.drop (i + 1)) := by rw [hb]; simp
      rw [this]
      exact ih (i + 1) (by omega)
    · refine Ev.step (f := fun _ => some false) (fun k => by rw [body, if_neg hb]) ?_
      have : decide (xs.getD i 0 :: xs.drop (i + 1) = ys.getD i 0 :: ys.drop (i + 1)) = false := by
        rw [decide_eq_false_iff_not]; intro h; exact hb (List.cons.inj h).1
      rw [this]
      exact Ev.now _
/-- Are numbers the same? -/
theorem l1Same_ev (xs ys : List Int) (hm : xs.length ≤ 9223372036854775807) : Ev (fun k => spec_l1Same.f k xs ys) (decide (xs = ys)) := by
  unfold spec_l1Same.f
  by_cases h : xs.length = ys.length
  · exact Ev.congr (f := fun k => spec_l1Same.l0 k xs ys (xs.length : Int) ((0 : Nat) : Int)) (fun k => by rw [if_pos (by omega)]; rfl) (l1Same_l xs ys h hm _ 0 rfl)
  · refine Ev.congr (f := fun _ => some false) (fun k => by rw [if_neg (by omega)]) ?_
    rw [decide_eq_false (fun e => h (by rw [e]))]
    exact Ev.now _

theorem toIntS_l (xs : List Int) (hm : xs.length ≤ 9223372036854775807) : ∀ (d i : Nat) (acc : List Int), xs.length - i = d → i ≤ xs.length → acc.length = xs.length → acc.take i = xs.take i → Ev (fun k => laws_toIntS.l0 k xs acc (i : Int)) xs := by
  intro d
  induction d with
  | zero =>
    intro i acc hd hi hl ht
    have e : acc = xs := Mine.take_all (i := i) (by omega) hl ht
    exact Ev.step (f := fun _ => some xs) (fun k => by simp only [laws_toIntS.l0]; rw [if_neg (by omega), e]) (Ev.now _)
  | succ d ih =>
    intro i acc hd hi hl ht
    refine Ev.step (f := fun k => laws_toIntS.l0 k xs (acc.set i (xs.getD i 0)) ((i + 1 : Nat) : Int)) (fun k => ?_) (ih (i + 1) _ (by omega) (by omega) (by simpa using hl) (Mine.take_set xs acc 0 i (by omega) hl ht))
    simp only [laws_toIntS.l0]
    rw [if_pos (by omega), if_pos (by omega), if_pos (by omega), wrap_next (n := xs.length) (by omega) hm, rd_nat, Int.toNat_natCast]
/-- A copy of numbers. -/
theorem toIntS_ev (xs : List Int) (hm : xs.length ≤ 1048576) : Ev (fun k => laws_toIntS.f k xs) xs := by
  refine Ev.congr (f := fun k => laws_toIntS.l0 k xs (List.replicate xs.length 0) ((0 : Nat) : Int)) (fun k => ?_) (toIntS_l xs (by omega) _ 0 _ rfl (by omega) (by simp) (by simp))
  unfold laws_toIntS.f
  rw [if_pos (by omega), if_pos (by omega)]
  simp

theorem toAttr_ev (s : Int) (l : List Int) (hm : l.length ≤ 1048576) : Ev (fun k => laws_toAttr.f k s l) (s, l) := Ev.bind (toIntS_ev l hm) (Ev.now _)

theorem equalInts_l (xs ys : List Int) (he : xs.length = ys.length) (hm : xs.length ≤ 9223372036854775807) : ∀ (d i : Nat), xs.length - i = d → Ev (fun k => slices_Equal_int_int.l0 k xs ys (xs.length : Int) (i : Int)) (decide (xs.drop i = ys.drop i)) := by
  intro d
  induction d with
  | zero =>
    intro i hd
    rw [List.drop_eq_nil_of_le (show xs.length ≤ i by omega), List.drop_eq_nil_of_le (show ys.length ≤ i by omega)]
    exact Ev.step (f := fun _ => some true) (fun k => by simp only [slices_Equal_int_int.l0]; rw [if_neg (by omega)]) (Ev.now _)
  | succ d ih =>
    intro i hd
    have hlt : i < xs.length := by omega
    rw [Mine.drop_at xs 0 i hlt, Mine.drop_at ys 0 i (by omega)]
    have body : ∀ k, slices_Equal_int_int.l0 (k + 1) xs ys (xs.length : Int) (i : Int) = if xs.getD i 0 = ys.getD i 0 then slices_Equal_int_int.l0 k xs ys (xs.length : Int) ((i + 1 : Nat) : Int) else some false := by
      intro k
      simp only [slices_Equal_int_int.l0]
      rw [if_pos (by omega), if_pos (by omega), if_pos (by omega), if_pos (by omega), rd_nat, rd_nat, wrap_next hlt hm]
    by_cases hb : xs.getD i 0 = ys.getD i 0
    · refine Ev.step (f := fun k => slices_Equal_int_int.l0 k xs ys (xs.length : Int) ((i + 1 : Nat) : Int)) (fun k => by rw [body, if_pos hb]) ?_
      have : decide (xs.getD i 0 :: xs.drop (i + 1) = ys.getD i 0 :: ys.drop (i + 1)) = decide (xs.drop (i + 1) = ys.drop (i + 1)) := by rw [hb]; simp
      rw [this]
      exact ih (i + 1) (by omega)
    · refine Ev.step (f := fun _ => some false) (fun k => by rw [body, if_neg hb]) ?_
      have : decide (xs.getD i 0 :: xs.drop (i + 1) = ys.getD i 0 :: ys.drop (i + 1)) = false := by
        rw [decide_eq_false_iff_not]; intro h; exact hb (List.cons.inj h).1
      rw [this]
      exact Ev.now _
/-- Are numbers the same? -/
theorem equalInts_ev (xs ys : List Int) (hm : xs.length ≤ 9223372036854775807) : Ev (fun k => slices_Equal_int_int.f k xs ys) (decide (xs = ys)) := by
  unfold slices_Equal_int_int.f
  by_cases h : xs.length = ys.length
  · exact Ev.congr (f := fun k => slices_Equal_int_int.l0 k xs ys (xs.length : Int) ((0 : Nat) : Int)) (fun k => by rw [if_pos (by omega)]; rfl) (equalInts_l xs ys h hm _ 0 rfl)
  · refine Ev.congr (f := fun _ => some false) (fun k => by rw [if_neg (by omega)]) ?_
    rw [decide_eq_false (fun e => h (by rw [e]))]
    exact Ev.now _

theorem FnExactSameAttr : laws_FnExactSameAttr.Pure := by
  rintro ⟨s, l⟩ ⟨t, m⟩ ⟨_, hl, _⟩ ⟨_, hm, _⟩
  dsimp only at hl hm ⊢
  by_cases h1 : (l.length : Int) ≤ 1048576
  · by_cases h2 : (m.length : Int) ≤ 1048576 - (l.length : Int)
    · obtain ⟨K1, k1⟩ := toAttr_ev s l (by omega)
      obtain ⟨K2, k2⟩ := toAttr_ev t m (by omega)
      obtain ⟨K3, k3⟩ := l1Same_ev l m hl
      obtain ⟨K4, k4⟩ := equalInts_ev l m hl
      obtain ⟨K5, k5⟩ := eqAttr_ev s l hl
      obtain ⟨K6, k6⟩ := eqAttr_ev t m hm
      dsimp only at k1 k2 k3 k4 k5 k6
      refine ⟨K1 + K2 + K3 + K4 + K5 + K6, ?_⟩
      unfold laws_FnExactSameAttr.f spec_SameAttr.f impl_SameAttr.f
      rw [szAttr_f s l _ (by omega) (by omega) hl, if_pos h1, Option.bind_some, if_neg (by omega), szAttr_f t m _ (by omega) (by omega) hm, if_pos h2, Option.bind_some, if_neg (by omega)]
      simp only [k1 _ (show K1 ≤ K1 + K2 + K3 + K4 + K5 + K6 by omega), k2 _ (show K2 ≤ K1 + K2 + K3 + K4 + K5 + K6 by omega), k3 _ (show K3 ≤ K1 + K2 + K3 + K4 + K5 + K6 by omega), k4 _ (show K4 ≤ K1 + K2 + K3 + K4 + K5 + K6 by omega), k5 _ (show K5 ≤ K1 + K2 + K3 + K4 + K5 + K6 by omega), k6 _ (show K6 ≤ K1 + K2 + K3 + K4 + K5 + K6 by omega), Option.bind_some]
      by_cases hs : s = t
      · simp [hs]
      · simp [hs]
    · refine ⟨0, ?_⟩
      unfold laws_FnExactSameAttr.f
      rw [szAttr_f s l _ (by omega) (by omega) hl, if_pos h1, Option.bind_some, if_neg (by omega), szAttr_f t m _ (by omega) (by omega) hm, if_neg h2, Option.bind_some, if_pos (by omega)]
  · refine ⟨0, ?_⟩
    unfold laws_FnExactSameAttr.f
    rw [szAttr_f s l _ (by omega) (by omega) hl, if_neg h1, Option.bind_some, if_pos (by omega)]

end Go.Proofs.Ytjecngfaadejcaa.Pure
