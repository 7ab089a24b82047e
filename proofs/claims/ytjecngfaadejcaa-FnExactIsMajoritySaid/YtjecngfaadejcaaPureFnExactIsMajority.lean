/- The law FnExactIsMajority holds, for every input. -/
import Derived.Test.YtjecngfaadejcaaQFnExactIsMajorityx2
import Derived.Test.YtjecngfaadejcaaMine
namespace Go.Proofs.Ytjecngfaadejcaa.Pure
open Go.RowKit Go.Proofs.Ytjecngfaadejcaa.QFnExactIsMajority Go.Proofs.YtjecngfaadejcaaW.PrintWords Go.Proofs.YtjecngfaadejcaaW.PrintLast Go.Proofs.YtjecngfaadejcaaW.PrintMore
set_option linter.unusedVariables false
set_option linter.unusedSimpArgs false

theorem wrap_next {i : Nat} {n : Nat} (h : i < n) (hn : n ≤ 9223372036854775807) : wrap64 ((i : Int) + 1) = ((i + 1 : Nat) : Int) := by
  unfold wrap64
  omega
theorem rd_nat (l : List Int) (i : Nat) : rd l (i : Int) = l.getD i 0 := by unfold rd; rw [Int.toNat_natCast]

theorem toIntS_l (xs : List Int) (hm : xs.length ≤ 9223372036854775807) : ∀ (d i : Nat) (acc : List Int), xs.length - i = d → i ≤ xs.length → acc.length = xs.length → acc.take i = xs.take i → Ev (fun k => laws_toIntS.l0 k xs acc (i : Int)) xs := by
  intro d
  induction d with
  | zero =>
    intro i acc hd hi hl ht
    have e : acc = xs := Mine.take_all (i := i) (by omega) hl ht
    exact Ev.step (f := fun _ => some xs) (fun k => by simp only [laws_toIntS.l0]; rw [if_neg (by omega), e]) (Ev.now _)
  | succ d ih =>
    intro i acc hd hi hl ht
    refine Ev.step (f := fun k => laws_toIntS.l0 k xs (acc.set i (xs.getD i 0)) ((i + 1 : Nat) : Int)) (fun k => ?_) (ih (i + 1) _ (by omega) (by omega) (by simpa using hl) (Mine.take_set xs acc 0 i (by omega) hl ht))
    simp only [laws_toIntS.l0]
    rw [if_pos (by omega), if_pos (by omega), if_pos (by omega), wrap_next (n := xs.length) (by omega) hm, rd_nat, Int.toNat_natCast]
/-- A copy of numbers. -/
theorem toIntS_ev (xs : List Int) (hm : xs.length ≤ 1048576) : Ev (fun k => laws_toIntS.f k xs) xs := by
  refine Ev.congr (f := fun k => laws_toIntS.l0 k xs (List.replicate xs.length 0) ((0 : Nat) : Int)) (fun k => ?_) (toIntS_l xs (by omega) _ 0 _ rfl (by omega) (by simp) (by simp))
  unfold laws_toIntS.f
  rw [if_pos (by omega), if_pos (by omega)]
  simp

theorem eqIntS_l (xs : List Int) (hm : xs.length ≤ 9223372036854775807) : ∀ (d i : Nat), xs.length - i = d → Ev (fun k => laws_eqIntS.l0 k xs xs (i : Int)) true := by
  intro d
  induction d with
  | zero => intro i hd; exact Ev.step (f := fun _ => some true) (fun k => by simp only [laws_eqIntS.l0]; rw [if_neg (by omega)]) (Ev.now _)
  | succ d ih =>
    intro i hd
    refine Ev.step (f := fun k => laws_eqIntS.l0 k xs xs ((i + 1 : Nat) : Int)) (fun k => ?_) (ih (i + 1) (by omega))
    simp only [laws_eqIntS.l0]
    rw [if_pos (by omega), if_pos (by omega), if_pos (by omega), if_pos trivial, wrap_next (n := xs.length) (by omega) hm]
/-- Numbers are the same as themselves. -/
theorem eqIntS_ev (xs : List Int) (hm : xs.length ≤ 9223372036854775807) : Ev (fun k => laws_eqIntS.f k xs xs) true := by
  refine Ev.congr (f := fun k => laws_eqIntS.l0 k xs xs ((0 : Nat) : Int)) (fun k => ?_) (eqIntS_l xs hm _ 0 rfl)
  unfold laws_eqIntS.f
  rw [if_pos rfl]
  rfl

theorem specGroup (n : Int) : spec_IsGroup.f n = some (decide (n = 3 ∨ n = 5)) := by
  unfold spec_IsGroup.f
  by_cases h : n = 3
  · rw [if_pos h]; simp [h]
  · rw [if_neg h]; by_cases h5 : n = 5 <;> simp [h, h5]

theorem l1In_f (a b c : Int) : spec_l1In.f a b c = some (Mine.inB b c a) := by
  unfold spec_l1In.f Mine.inB
  by_cases h : a ≥ b
  · rw [if_pos h]; simp [show b ≤ a from h]
  · rw [if_neg h]; simp [show ¬ b ≤ a from h]

/-- Numbers rise and are within bounds, as the reference asks it. -/
def risesIn (lo hi : Int) (l : List Int) : Bool := Mine.riseB l && !Mine.anyP (Mine.outB lo hi) l
theorem l1Rising_l (xs : List Int) (lo hi : Int) (hm : xs.length ≤ 9223372036854775807) : ∀ (d j : Nat), 1 ≤ j → xs.length - j = d → Mine.outB lo hi (xs.getD (j - 1) 0) = false ∨ xs.length = 0 →
    Ev (fun k => spec_l1Rising.l0 k xs lo hi xs (xs.length : Int) (j : Int)) (risesIn lo hi (xs.drop (j - 1))) := by
  intro d
  induction d with
  | zero =>
    intro j hj hd ho
    refine Ev.step (f := fun _ => some _) (fun k => by simp only [spec_l1Rising.l0]; rw [if_neg (by omega)]) (?_ : Ev (fun _ => some true) _)
    have e : risesIn lo hi (xs.drop (j - 1)) = true := by
      have hl : (xs.drop (j - 1)).length ≤ 1 := by rw [List.length_drop]; omega
      by_cases h0 : j - 1 < xs.length
      · rw [Mine.drop_at xs 0 (j - 1) h0, List.drop_eq_nil_of_le (by omega)]
        rcases ho with ho | ho
        · show (true && !Mine.anyP _ [_]) = true
          rw [Mine.anyP_cons, ho]; rfl
        · omega
      · rw [List.drop_eq_nil_of_le (by omega)]; rfl
    rw [e]; exact Ev.now _
  | succ d ih =>
    intro j hj hd ho
    have hlt : j < xs.length := by omega
    have e1 := Mine.drop_at xs 0 (j - 1) (by omega)
    rw [show j - 1 + 1 = j by omega] at e1
    have e2 := Mine.drop_at xs 0 j hlt
    have ho' : Mine.outB lo hi (xs.getD (j - 1) 0) = false := by rcases ho with h | h; exact h; omega
    have r2 : rd xs ((j : Int) - 1) = xs.getD (j - 1) 0 := by rw [show ((j : Int) - 1) = ((j - 1 : Nat) : Int) by omega, rd_nat]
    have hp : wrap64 ((j : Int) - 1) = (j : Int) - 1 := by unfold wrap64; omega
    have body : ∀ k, spec_l1Rising.l0 (k + 1) xs lo hi xs (xs.length : Int) (j : Int) = if Mine.inB lo hi (xs.getD j 0) = true then (if xs.getD (j - 1) 0 ≥ xs.getD j 0 then some false else spec_l1Rising.l0 k xs lo hi xs (xs.length : Int) ((j + 1 : Nat) : Int)) else some false := by
      intro k
      simp only [spec_l1Rising.l0]
      rw [if_pos (by omega), if_pos (by omega), if_pos (by omega), rd_nat, l1In_f, Option.bind_some, hp, if_pos (by omega : (j : Int) > 0), if_pos (by omega : (0 : Int) ≤ (j : Int) - 1), if_pos (by omega : (j : Int) - 1 < (xs.length : Int)), r2, wrap_next hlt hm]
    have er : risesIn lo hi (xs.drop (j - 1)) = ((decide (xs.getD (j - 1) 0 < xs.getD j 0)) && risesIn lo hi (xs.drop j)) := by
      rw [e1, e2]
      simp only [risesIn, Mine.riseB, Mine.anyP_cons, ho', Bool.false_or]
      cases decide (xs.getD (j - 1) 0 < xs.getD j 0) <;> simp
    by_cases hi1 : Mine.inB lo hi (xs.getD j 0) = true
    · by_cases h : xs.getD (j - 1) 0 ≥ xs.getD j 0
      · refine Ev.step (f := fun _ => some false) (fun k => by rw [body, if_pos hi1, if_pos h]) ?_
        rw [er, decide_eq_false (by omega : ¬ xs.getD (j - 1) 0 < xs.getD j 0), Bool.false_and]; exact Ev.now _
      · refine Ev.step (f := fun k => spec_l1Rising.l0 k xs lo hi xs (xs.length : Int) ((j + 1 : Nat) : Int)) (fun k => by rw [body, if_pos hi1, if_neg h]) ?_
        rw [er, decide_eq_true (by omega : xs.getD (j - 1) 0 < xs.getD j 0), Bool.true_and]
        have := ih (j + 1) (by omega) (by omega) (.inl (by rw [show j + 1 - 1 = j by omega]; unfold Mine.outB; rw [hi1]; rfl))
        rwa [show j + 1 - 1 = j by omega] at this
    · refine Ev.step (f := fun _ => some false) (fun k => by rw [body, if_neg hi1]) ?_
      have : risesIn lo hi (xs.drop j) = false := by
        rw [e2]
        simp only [risesIn, Mine.anyP_cons, Mine.outB, hi1]
        simp
      rw [er, this, Bool.and_false]; exact Ev.now _
theorem l1Rising_ev (xs : List Int) (lo hi : Int) (hm : xs.length ≤ 9223372036854775807) : Ev (fun k => spec_l1Rising.f k xs lo hi) (risesIn lo hi xs) := by
  unfold spec_l1Rising.f
  by_cases h0 : xs.length = 0
  · have : xs = [] := List.eq_nil_of_length_eq_zero h0
    subst this
    exact Ev.step (f := fun _ => some true) (fun k => by simp only [spec_l1Rising.l0]; rw [if_neg (by simp)]) (Ev.now _)
  · have body : ∀ k, spec_l1Rising.l0 (k + 1) xs lo hi xs (xs.length : Int) 0 = if Mine.inB lo hi (xs.getD 0 0) = true then spec_l1Rising.l0 k xs lo hi xs (xs.length : Int) ((1 : Nat) : Int) else some false := by
      intro k
      simp only [spec_l1Rising.l0]
      rw [if_pos (by omega), if_pos (by omega), if_pos (by omega), show rd xs 0 = xs.getD 0 0 from rfl, l1In_f, Option.bind_some, if_neg (by omega : ¬ (0 : Int) > 0), show wrap64 (0 + 1) = ((1 : Nat) : Int) from by unfold wrap64; omega]
    have e0 := Mine.drop_at xs 0 0 (by omega)
    by_cases hi1 : Mine.inB lo hi (xs.getD 0 0) = true
    · refine Ev.step (f := fun k => spec_l1Rising.l0 k xs lo hi xs (xs.length : Int) ((1 : Nat) : Int)) (fun k => by rw [body, if_pos hi1]) ?_
      have := l1Rising_l xs lo hi hm (xs.length - 1) 1 (by omega) rfl (.inl (by unfold Mine.outB; rw [show (1 : Nat) - 1 = 0 from rfl, hi1]; rfl))
      simpa using this
    · refine Ev.step (f := fun _ => some false) (fun k => by rw [body, if_neg hi1]) ?_
      have : risesIn lo hi xs = false := by
        rw [show xs = xs.getD 0 0 :: xs.drop 1 from by simpa using e0]
        simp only [risesIn, Mine.anyP_cons, Mine.outB, hi1]
        simp
      rw [this]; exact Ev.now _

theorem implGroup (n : Int) : impl_IsGroup.f n = some (decide (n = 3 ∨ n = 5)) := by
  unfold impl_IsGroup.f
  by_cases h : n = 3
  · rw [if_pos h]; simp [h]
  · rw [if_neg h]; by_cases h5 : n = 5 <;> simp [h, h5]

theorem within_f (a b c : Int) : impl_within.f a b c = some (Mine.inB b c a) := by
  unfold impl_within.f Mine.inB
  by_cases h : b ≤ a
  · rw [if_pos h]; simp [h]
  · rw [if_neg h]; simp [h]

theorem FnExactIsMajority : laws_FnExactIsMajority.Pure := by
  intro n l _ hl
  obtain ⟨hl, _⟩ := hl
  by_cases hbig : (l.length : Int) > 1048576
  · exact ⟨0, by unfold laws_FnExactIsMajority.f; rw [if_pos hbig]⟩
  obtain ⟨K1, h1⟩ := toIntS_ev l (by omega)
  obtain ⟨K2, h2⟩ := l1Rising_ev l 0 (wrap64 (n - 1)) hl
  obtain ⟨K3, h3⟩ := eqIntS_ev l hl
  dsimp only at h1 h2 h3
  refine ⟨K1 + K2 + K3 + 1, ?_⟩
  unfold laws_FnExactIsMajority.f
  rw [if_neg hbig, h1 _ (by omega), Option.bind_some]
  have key : spec_IsMajority.f (K1 + K2 + K3 + 1) n l = impl_IsMajority.f n l := by
    unfold spec_IsMajority.f impl_IsMajority.f spec_Majority.f impl_areMembers.f impl_isMajority.f
    rw [specGroup, implGroup, h2 _ (by omega)]
    simp only [Option.bind_some]
    by_cases hg : n = 3 ∨ n = 5
    · rw [decide_eq_true hg]
      simp only [if_true, Option.bind_some]
      by_cases h0 : (l.length : Int) = 0
      · rw [if_pos h0, if_pos h0]
      · rw [if_neg h0, if_neg h0]
        unfold risesIn
        cases hb : (Mine.riseB l && !Mine.anyP (Mine.outB 0 (wrap64 (n - 1))) l)
        · simp
        · simp only [if_true]
          have : wrap64 (wrap64 (Int.tdiv n 2) + 1) = wrap64 (Int.tdiv n 2) + 1 := by unfold wrap64; rcases hg with rfl | rfl <;> decide
          rw [this]
          congr 2
    · rw [decide_eq_false hg]; simp
  have some_ : ∃ r, impl_IsMajority.f n l = some r := by
    unfold impl_IsMajority.f impl_areMembers.f impl_isMajority.f
    rw [implGroup]
    simp only [Option.bind_some]
    by_cases hg : n = 3 ∨ n = 5
    · rw [decide_eq_true hg]
      simp only [if_true, Option.bind_some]
      by_cases h0 : (l.length : Int) = 0
      · rw [if_pos h0]; exact ⟨_, rfl⟩
      · rw [if_neg h0]
        cases hb : (Mine.riseB l && !Mine.anyP (Mine.outB 0 (wrap64 (n - 1))) l)
        · exact ⟨_, rfl⟩
        · exact ⟨_, rfl⟩
    · rw [decide_eq_false hg]; exact ⟨_, rfl⟩
  obtain ⟨⟨r1, r2⟩, hr⟩ := some_
  rw [key, hr]
  simp only [Option.bind_some, bne_self_eq_false, Bool.false_eq_true, if_false]
  rw [hr]
  simp only [Option.bind_some, bne_self_eq_false, Bool.false_eq_true, if_false]
  simp only [laws_FnExactIsMajority.j0, Bool.false_eq_true, if_false]
  rw [h1 _ (by omega), Option.bind_some, h3 _ (by omega)]
  simp

end Go.Proofs.Ytjecngfaadejcaa.Pure
