/- The law FnExactApplyCmd holds, for every input. -/
import Derived.Test.YtbhhgeecieeefaaQFnExactApplyCmdx7
import Derived.Test.YtbhhgeecieeefaaMine
namespace Go.Proofs.Ytbhhgeecieeefaa.Pure
open Go.RowKit Go.Proofs.Ytbhhgeecieeefaa.QFnExactApplyCmd Go.Proofs.YtbhhgeecieeefaaW.PrintWords Go.Proofs.YtbhhgeecieeefaaW.PrintLast Go.Proofs.YtbhhgeecieeefaaW.PrintMore
set_option linter.unusedVariables false
set_option linter.unusedSimpArgs false

theorem wrap_next {i : Nat} {n : Nat} (h : i < n) (hn : n ≤ 9223372036854775807) : wrap64 ((i : Int) + 1) = ((i + 1 : Nat) : Int) := by
  unfold wrap64
  omega
theorem rd_nat (l : List Int) (i : Nat) : rd l (i : Int) = l.getD i 0 := by unfold rd; rw [Int.toNat_natCast]
theorem wrap_small {x : Int} (h0 : -9223372036854775808 ≤ x) (h1 : x ≤ 9223372036854775807) : wrap64 x = x := by unfold wrap64; omega
theorem Ev.const {α : Type} {o : Option α} {a : α} (h : o = some a) : Ev (fun _ => o) a := ⟨0, fun _ _ => h⟩
theorem Ev.map {α β : Type} {g : Nat → Option α} {a : α} (h : Ev g a) (f : α → β) : Ev (fun k => (g k).bind fun t => some (f t)) (f a) := by
  obtain ⟨K, h⟩ := h
  exact ⟨K, fun k hk => by show (g k).bind _ = _; rw [h k hk, Option.bind_some]⟩
/-- A loop over a list's elements that ends at the first hit. -/
theorem loop_any {α ρ : Type} (F : Nat → Int → Option ρ) (xs : List α) (d : α) (p : α → Bool) (hit miss : ρ)
    (hs : ∀ i, i < xs.length → (p (xs.getD i d) = true → Ev (fun k => F k (i : Int)) hit) ∧ (p (xs.getD i d) = false → ∀ r, Ev (fun k => F k ((i + 1 : Nat) : Int)) r → Ev (fun k => F k (i : Int)) r))
    (he : Mine.anyP p xs = false → Ev (fun k => F k (xs.length : Int)) miss) : Ev (fun k => F k 0) (if Mine.anyP p xs = true then hit else miss) := by
  have key : ∀ (n i : Nat), xs.length - i = n → i ≤ xs.length → Mine.anyP p (xs.take i) = false → Ev (fun k => F k (i : Int)) (if Mine.anyP p (xs.drop i) = true then hit else miss) := by
    intro n
    induction n with
    | zero =>
      intro i hn hi hb
      obtain rfl : i = xs.length := by omega
      rw [List.drop_eq_nil_of_le (Nat.le_refl _)]
      rw [List.take_of_length_le (Nat.le_refl _)] at hb
      simpa [Mine.anyP] using he hb
    | succ n ih =>
      intro i hn hi hb
      rw [Mine.drop_at xs d i (by omega), Mine.anyP_cons]
      cases hp : p (xs.getD i d) with
      | true => simpa using (hs i (by omega)).1 hp
      | false =>
        have hb' : Mine.anyP p (xs.take (i + 1)) = false := by
          have e : xs.take (i + 1) = xs.take i ++ [xs.getD i d] := by
            rw [List.take_add_one, List.getD_eq_getElem?_getD, List.getElem?_eq_getElem (show i < xs.length by omega)]; rfl
          rw [e]
          unfold Mine.anyP at hb ⊢
          rw [List.any_append, hb, List.any_cons, hp]
          rfl
        simpa using (hs i (by omega)).2 hp _ (ih (i + 1) (by omega) (by omega) hb')
  simpa using key xs.length 0 (by omega) (by omega) (by simp [Mine.anyP])
/-- What a loop over a list's elements comes to: a state that goes on, or a result. -/
def scan {σ α ρ : Type} (step : α → σ → Sum σ ρ) (fin : σ → ρ) : List α → σ → ρ
  | [], s => fin s
  | x :: xs, s => match step x s with
    | .inl s' => scan step fin xs s'
    | .inr r => r
theorem loop_scan {σ α ρ : Type} (F : Nat → σ → Int → Option ρ) (xs : List α) (d : α) (step : α → σ → Sum σ ρ) (fin : σ → ρ) (P : Nat → σ → Prop)
    (hs : ∀ (i : Nat) (s : σ), i < xs.length → P i s → (∀ s', step (xs.getD i d) s = .inl s' → P (i + 1) s' ∧ ∀ r, Ev (fun k => F k s' ((i + 1 : Nat) : Int)) r → Ev (fun k => F k s (i : Int)) r) ∧ (∀ r, step (xs.getD i d) s = .inr r → Ev (fun k => F k s (i : Int)) r))
    (he : ∀ s, P xs.length s → Ev (fun k => F k s (xs.length : Int)) (fin s)) (s : σ) (h0 : P 0 s) : Ev (fun k => F k s 0) (scan step fin xs s) := by
  have key : ∀ (n i : Nat) (s : σ), xs.length - i = n → i ≤ xs.length → P i s → Ev (fun k => F k s (i : Int)) (scan step fin (xs.drop i) s) := by
    intro n
    induction n with
    | zero =>
      intro i s hn hi hp
      obtain rfl : i = xs.length := by omega
      rw [List.drop_eq_nil_of_le (Nat.le_refl _)]
      exact he s hp
    | succ n ih =>
      intro i s hn hi hp
      rw [Mine.drop_at xs d i (by omega), scan]
      cases hst : step (xs.getD i d) s with
      | inl s' => exact ((hs i s (by omega) hp).1 s' hst).2 _ (ih (i + 1) s' (by omega) (by omega) ((hs i s (by omega) hp).1 s' hst).1)
      | inr r => exact (hs i s (by omega) hp).2 r hst
  simpa using key xs.length 0 s (by omega) (by omega) h0

theorem eqIntS_l (xs : List Int) (hm : xs.length ≤ 9223372036854775807) : ∀ (d i : Nat), xs.length - i = d → Ev (fun k => laws_eqIntS.l0 k xs xs (i : Int)) true := by
  intro d
  induction d with
  | zero => intro i hd; exact Ev.step (f := fun _ => some true) (fun k => by simp only [laws_eqIntS.l0]; rw [if_neg (by omega)]) (Ev.now _)
  | succ d ih =>
    intro i hd
    refine Ev.step (f := fun k => laws_eqIntS.l0 k xs xs ((i + 1 : Nat) : Int)) (fun k => ?_) (ih (i + 1) (by omega))
    simp only [laws_eqIntS.l0]
    rw [if_pos (by omega), if_pos (by omega), if_pos (by omega), if_pos trivial, wrap_next (n := xs.length) (by omega) hm]
/-- Numbers are the same as themselves. -/
theorem eqIntS_ev (xs : List Int) (hm : xs.length ≤ 9223372036854775807) : Ev (fun k => laws_eqIntS.f k xs xs) true := by
  refine Ev.congr (f := fun k => laws_eqIntS.l0 k xs xs ((0 : Nat) : Int)) (fun k => ?_) (eqIntS_l xs hm _ 0 rfl)
  unfold laws_eqIntS.f
  rw [if_pos rfl]
  rfl

theorem markIntS_l (m : Int) (n : Nat) (hm : n ≤ 9223372036854775807) (h0 : 0 ≤ m) (h1 : m + n ≤ 9223372036854775807) : ∀ (d i : Nat) (acc : List Int), n - i = d → i ≤ n → acc.length = n → acc.take i = (Mine.seqI m n).take i →
    Ev (fun k => laws_markIntS.l0 k acc (m + (i : Int)) (i : Int)) (m + (n : Int), Mine.seqI m n) := by
  intro d
  induction d with
  | zero =>
    intro i acc hd hi hl ht
    obtain rfl : i = n := by omega
    have e : acc = Mine.seqI m i := Mine.take_all (i := i) (by rw [Mine.seqI_length]; omega) (by rw [Mine.seqI_length]; exact hl) ht
    exact Ev.step (f := fun _ => some _) (fun k => by simp only [laws_markIntS.l0]; rw [if_neg (by omega), e]) (Ev.now _)
  | succ d ih =>
    intro i acc hd hi hl ht
    have hs := Mine.take_set (Mine.seqI m n) acc 0 i (by rw [Mine.seqI_length]; omega) (by rw [Mine.seqI_length]; exact hl) ht
    rw [Mine.seqI_get m n i 0 (by omega)] at hs
    refine Ev.step (f := fun k => laws_markIntS.l0 k (acc.set i (m + (i : Int))) (m + ((i + 1 : Nat) : Int)) ((i + 1 : Nat) : Int)) (fun k => ?_) (ih (i + 1) _ (by omega) (by omega) (by simpa using hl) hs)
    have hw : wrap64 (m + (i : Int) + 1) = m + ((i + 1 : Nat) : Int) := by unfold wrap64; omega
    simp only [laws_markIntS.l0]
    rw [if_pos (by omega), if_pos (by omega), hw, wrap_next (n := n) (by omega) hm, Int.toNat_natCast]
/-- A row is written over with numbers that go on. -/
theorem markIntS_ev (l : List Int) (m : Int) (hm : l.length ≤ 9223372036854775807) (h0 : 0 ≤ m) (h1 : m + l.length ≤ 9223372036854775807) : Ev (fun k => laws_markIntS.f k l m) (m + (l.length : Int), Mine.seqI m l.length) := by
  have := markIntS_l m l.length hm h0 h1 _ 0 l rfl (by omega) rfl (by simp)
  unfold laws_markIntS.f
  simpa using this

theorem heldIntS_l (m : Int) (n : Nat) (hm : n ≤ 9223372036854775807) (h0 : 0 ≤ m) (h1 : m + n ≤ 9223372036854775807) : ∀ (d i : Nat), n - i = d → i ≤ n →
    Ev (fun k => laws_heldIntS.l0 k (Mine.seqI m n) (m + (i : Int)) (i : Int)) (m + (n : Int)) := by
  intro d
  induction d with
  | zero =>
    intro i hd hi
    obtain rfl : i = n := by omega
    exact Ev.step (f := fun _ => some _) (fun k => by simp only [laws_heldIntS.l0]; rw [if_neg (by rw [Mine.seqI_length]; omega)]) (Ev.now _)
  | succ d ih =>
    intro i hd hi
    refine Ev.step (f := fun k => laws_heldIntS.l0 k (Mine.seqI m n) (m + ((i + 1 : Nat) : Int)) ((i + 1 : Nat) : Int)) (fun k => ?_) (ih (i + 1) (by omega) (by omega))
    have hw : wrap64 (m + (i : Int) + 1) = m + ((i + 1 : Nat) : Int) := by unfold wrap64; omega
    simp only [laws_heldIntS.l0]
    rw [if_pos (by rw [Mine.seqI_length]; omega), if_pos (by omega), rd_nat, Mine.seqI_get m n i 0 (by omega), if_pos rfl, hw, wrap_next (n := n) (by omega) hm]
/-- A row that was written so is found so. -/
theorem heldIntS_ev (m : Int) (n : Nat) (hm : n ≤ 9223372036854775807) (h0 : 0 ≤ m) (h1 : m + n ≤ 9223372036854775807) : Ev (fun k => laws_heldIntS.f k (Mine.seqI m n) m) (m + (n : Int)) := by
  have := heldIntS_l m n hm h0 h1 _ 0 rfl (by omega)
  unfold laws_heldIntS.f
  simpa using this

theorem l1In_f (a b c : Int) : spec_l1In.f a b c = some (Mine.inB b c a) := by
  unfold spec_l1In.f Mine.inB
  by_cases h : a ≥ b
  · rw [if_pos h]; simp [show b ≤ a from h]
  · rw [if_neg h]; simp [show ¬ b ≤ a from h]

def goodSumsB (l : List Int) : Bool := decide ((l.length : Int) = 4) && (!Mine.anyP (Mine.outB 0 400) l && (Mine.sumW wrap64 l == 400))
theorem specSums_l (xs : List Int) (hm : xs.length ≤ 9223372036854775807) : ∀ (d i : Nat) (a : Int), xs.length - i = d → Ev (fun k => spec_GoodSums.l0 k xs a xs (xs.length : Int) (i : Int)) (decide ((xs.length : Int) = 4) && (!Mine.anyP (Mine.outB 0 400) (xs.drop i) && ((xs.drop i).foldl (fun a x => wrap64 (a + x)) a == 400))) := by
  intro d
  induction d with
  | zero =>
    intro i a hd
    rw [List.drop_eq_nil_of_le (by omega)]
    refine Ev.step (f := fun _ => some _) (fun k => ?_) (Ev.now _)
    simp only [spec_GoodSums.l0]
    rw [if_neg (by omega)]
    by_cases h : (xs.length : Int) = 4
    · rw [if_pos h, decide_eq_true h]; simp [Mine.anyP]
    · rw [if_neg h, decide_eq_false h]; simp
  | succ d ih =>
    intro i a hd
    have hlt : i < xs.length := by omega
    rw [Mine.drop_at xs 0 i hlt, Mine.anyP_cons, List.foldl_cons]
    have body : ∀ k, spec_GoodSums.l0 (k + 1) xs a xs (xs.length : Int) (i : Int) = if Mine.inB 0 400 (xs.getD i 0) = true then spec_GoodSums.l0 k xs (wrap64 (a + xs.getD i 0)) xs (xs.length : Int) ((i + 1 : Nat) : Int) else some false := by
      intro k
      simp only [spec_GoodSums.l0]
      rw [if_pos (by omega), if_pos (by omega), if_pos (by omega), rd_nat, l1In_f, Option.bind_some, wrap_next hlt hm]
    cases hb : Mine.inB 0 400 (xs.getD i 0) with
    | true =>
      refine Ev.step (f := fun k => spec_GoodSums.l0 k xs (wrap64 (a + xs.getD i 0)) xs (xs.length : Int) ((i + 1 : Nat) : Int)) (fun k => by rw [body, if_pos hb]) ?_
      have : Mine.outB 0 400 (xs.getD i 0) = false := by unfold Mine.outB; rw [hb]; rfl
      rw [this, Bool.false_or]
      exact ih (i + 1) _ (by omega)
    | false =>
      refine Ev.step (f := fun _ => some false) (fun k => by rw [body, if_neg (by rw [hb]; simp)]) ?_
      have : Mine.outB 0 400 (xs.getD i 0) = true := by unfold Mine.outB; rw [hb]; rfl
      rw [this, Bool.true_or, Bool.not_true, Bool.false_and, Bool.and_false]
      exact Ev.now _
theorem specSums_ev (xs : List Int) (hm : xs.length ≤ 9223372036854775807) : Ev (fun k => spec_GoodSums.f k xs) (goodSumsB xs) := specSums_l xs hm _ 0 0 rfl

theorem l2Account_f (a : Int) : spec_l2Account.f a = some (Mine.inB 0 3 a) := by unfold spec_l2Account.f; rw [l1In_f, Option.bind_some]

theorem specGoodCmd (k i f t a : Int) : spec_GoodCmd.f k i f t a = some (Mine.goodCmdB k i f t a) := by
  unfold spec_GoodCmd.f spec_l2Code.f Mine.goodCmdB
  simp only [l1In_f, l2Account_f, Option.bind_some]
  by_cases h0 : k = 0
  · simp [h0]
  · rw [if_neg h0, if_neg h0]
    by_cases h1 : k = 1
    · rw [if_pos h1, if_pos h1, if_pos h1]
      by_cases hft : f = t
      · cases Mine.inB 1 999 i <;> cases Mine.inB 0 3 f <;> cases Mine.inB 0 3 t <;> simp [hft]
      · cases Mine.inB 1 999 i <;> cases Mine.inB 0 3 f <;> cases Mine.inB 0 3 t <;> cases Mine.inB 1 1000 a <;> simp [hft]
    · rw [if_neg h1, if_neg h1, if_neg h1]
      by_cases h2 : k = 2
      · rw [if_pos h2, if_pos h2]
        by_cases ht : t = 0
        · cases Mine.inB 1 999 i <;> cases Mine.inB 0 3 f <;> simp [ht]
        · cases Mine.inB 1 999 i <;> cases Mine.inB 0 3 f <;> simp [ht]
      · rw [if_neg h2, if_neg h2]

theorem l1Own_f (l : List Int) (h : l.length < 17592186044416) : spec_l1Own.f l = some l := by
  unfold spec_l1Own.f
  rw [Option.bind_some, if_pos (by simpa using h)]
  rfl

/-- A number put to its place among rising ones, once. -/
def putL : List Int → Int → List Int
  | [], n => [n]
  | x :: xs, n => if x < n then x :: putL xs n else if x = n then x :: xs else n :: x :: xs
theorem putL_length (n : Int) : ∀ l : List Int, (putL l n).length ≤ l.length + 1
  | [] => by simp [putL]
  | x :: xs => by
    have := putL_length n xs
    unfold putL
    split
    · simp; omega
    · split <;> simp

/-- The accounts that a good command touches (its kind, from, to). -/
def touchL (k f t : Int) : List Int := if k = 1 then putL [f] t else if k = 2 then [f] else []
theorem touchL_length (k f t : Int) : (touchL k f t).length ≤ 2 := by
  unfold touchL
  split
  · exact putL_length t [f]
  · split <;> simp
theorem good_parts {k i f t a : Int} (h : Mine.goodCmdB k i f t a = true) : (k = 0 ∧ i = 0 ∧ f = 0 ∧ t = 0 ∧ a = 0) ∨ (k = 1 ∧ (1 ≤ i ∧ i ≤ 999) ∧ (0 ≤ f ∧ f ≤ 3) ∧ (0 ≤ t ∧ t ≤ 3) ∧ f ≠ t ∧ (1 ≤ a ∧ a ≤ 1000)) ∨ (k = 2 ∧ (1 ≤ i ∧ i ≤ 999) ∧ (0 ≤ f ∧ f ≤ 3) ∧ t = 0 ∧ a = 0) := by
  unfold Mine.goodCmdB at h
  by_cases h0 : k = 0
  · rw [if_pos h0] at h; simp at h; exact .inl ⟨h0, h.1, h.2.1, h.2.2.1, h.2.2.2⟩
  · rw [if_neg h0] at h
    by_cases h1 : k = 1
    · rw [if_pos h1] at h
      simp only [Bool.and_eq_true, Mine.inB_iff, Bool.not_eq_true', beq_eq_false_iff_ne] at h
      exact .inr (.inl ⟨h1, h.1, h.2.1, h.2.2.1, h.2.2.2.1, h.2.2.2.2⟩)
    · rw [if_neg h1] at h
      by_cases h2 : k = 2
      · rw [if_pos h2] at h
        simp only [Bool.and_eq_true, Mine.inB_iff, beq_iff_eq] at h
        exact .inr (.inr ⟨h2, h.1, h.2.1, h.2.2.1, h.2.2.2⟩)
      · rw [if_neg h2] at h; simp at h

/-- What a good command does to sums: the sums behind it, its code, the sum that it tells. -/
def applyL (l : List Int) (k f t a : Int) : List Int × Int × Int :=
  if k = 2 then (l, 3, l.getD f.toNat 0)
  else if k = 1 then
    if l.getD f.toNat 0 < a then (l, 2, 0)
    else ((l.set f.toNat (wrap64 (l.getD f.toNat 0 - a))).set t.toNat (wrap64 ((l.set f.toNat (wrap64 (l.getD f.toNat 0 - a))).getD t.toNat 0 + a)), 1, 0)
  else (l, 0, 0)
theorem applyL_length (l : List Int) (k f t a : Int) : (applyL l k f t a).1.length = l.length := by
  unfold applyL
  split
  · rfl
  · split
    · split <;> simp
    · rfl

theorem specApply_f (l : List Int) (k i f t a : Int) (hl : l.length = 4) (h : Mine.goodCmdB k i f t a = true) : spec_l11Apply.f l k i f t a = some (applyL l k f t a) := by
  unfold spec_l11Apply.f applyL
  rw [l1Own_f l (by omega), Option.bind_some]
  rcases good_parts h with ⟨rfl, _, rfl, rfl, _⟩ | ⟨rfl, _, hf, ht, hne, _⟩ | ⟨rfl, _, hf, _⟩
  · simp
  · have hfl : f < (l.length : Int) := by omega
    have htl : t < (l.length : Int) := by omega
    simp only [if_neg (show ¬ (1 : Int) = 2 by omega), if_pos hf.1, if_pos hfl, if_pos (rfl : (1 : Int) = 1), if_pos ht.1, if_pos htl, Option.bind_some]
    unfold rd
    by_cases hlt : l.getD f.toNat 0 < a
    · simp only [if_pos hlt, if_true]
    · simp only [if_neg hlt, if_true]
  · have hfl : f < (l.length : Int) := by omega
    simp only [if_pos (rfl : (2 : Int) = 2), if_pos hf.1, if_pos hfl, if_true]; rfl

theorem toIntS_l (xs : List Int) (hm : xs.length ≤ 9223372036854775807) : ∀ (d i : Nat) (acc : List Int), xs.length - i = d → i ≤ xs.length → acc.length = xs.length → acc.take i = xs.take i → Ev (fun k => laws_toIntS.l0 k xs acc (i : Int)) xs := by
  intro d
  induction d with
  | zero =>
    intro i acc hd hi hl ht
    have e : acc = xs := Mine.take_all (i := i) (by omega) hl ht
    exact Ev.step (f := fun _ => some xs) (fun k => by simp only [laws_toIntS.l0]; rw [if_neg (by omega), e]) (Ev.now _)
  | succ d ih =>
    intro i acc hd hi hl ht
    refine Ev.step (f := fun k => laws_toIntS.l0 k xs (acc.set i (xs.getD i 0)) ((i + 1 : Nat) : Int)) (fun k => ?_) (ih (i + 1) _ (by omega) (by omega) (by simpa using hl) (Mine.take_set xs acc 0 i (by omega) hl ht))
    simp only [laws_toIntS.l0]
    rw [if_pos (by omega), if_pos (by omega), if_pos (by omega), wrap_next (n := xs.length) (by omega) hm, rd_nat, Int.toNat_natCast]
/-- A copy of numbers. -/
theorem toIntS_ev (xs : List Int) (hm : xs.length ≤ 1048576) : Ev (fun k => laws_toIntS.f k xs) xs := by
  refine Ev.congr (f := fun k => laws_toIntS.l0 k xs (List.replicate xs.length 0) ((0 : Nat) : Int)) (fun k => ?_) (toIntS_l xs (by omega) _ 0 _ rfl (by omega) (by simp) (by simp))
  unfold laws_toIntS.f
  rw [if_pos (by omega), if_pos (by omega)]
  simp

theorem within_f (a b c : Int) : impl_within.f a b c = some (Mine.inB b c a) := by
  unfold impl_within.f Mine.inB
  by_cases h : b ≤ a
  · rw [if_pos h]; simp [h]
  · rw [if_neg h]; simp [h]

theorem total_l (xs : List Int) (hm : xs.length ≤ 9223372036854775807) : ∀ (d i : Nat) (a : Int), xs.length - i = d → Ev (fun k => impl_total.l0 k a xs (xs.length : Int) (i : Int)) ((xs.drop i).foldl (fun a x => wrap64 (a + x)) a) := by
  intro d
  induction d with
  | zero =>
    intro i a hd
    rw [List.drop_eq_nil_of_le (by omega)]
    exact Ev.step (f := fun _ => some a) (fun k => by simp only [impl_total.l0]; rw [if_neg (by omega)]) (Ev.now _)
  | succ d ih =>
    intro i a hd
    have hlt : i < xs.length := by omega
    rw [Mine.drop_at xs 0 i hlt, List.foldl_cons]
    refine Ev.step (f := fun k => impl_total.l0 k (wrap64 (a + xs.getD i 0)) xs (xs.length : Int) ((i + 1 : Nat) : Int)) (fun k => ?_) (ih (i + 1) _ (by omega))
    simp only [impl_total.l0]
    rw [if_pos (by omega), if_pos (by omega), if_pos (by omega), rd_nat, wrap_next hlt hm]
theorem total_ev (xs : List Int) (hm : xs.length ≤ 9223372036854775807) : Ev (fun k => impl_total.f k xs) (Mine.sumW wrap64 xs) := total_l xs hm _ 0 0 rfl

theorem implSums_ev (xs : List Int) (hm : xs.length ≤ 9223372036854775807) : Ev (fun k => impl_GoodSums.f k xs) (goodSumsB xs) := by
  unfold impl_GoodSums.f goodSumsB
  by_cases h : (xs.length : Int) = 4
  · rw [decide_eq_true h, Bool.true_and]
    cases ha : Mine.anyP (Mine.outB 0 400) xs with
    | true => exact Ev.congr (f := fun _ => some false) (fun k => by rw [if_pos h, if_pos rfl]) (Ev.now _)
    | false =>
      refine Ev.congr (f := fun k => (impl_total.f k xs).bind fun t => some (t == 400)) (fun k => by rw [if_pos h, if_neg (by simp)]) ?_
      exact Ev.bind (total_ev xs hm) (Ev.now _)
  · rw [decide_eq_false h, Bool.false_and]
    exact Ev.congr (f := fun _ => some false) (fun k => by rw [if_neg h]) (Ev.now _)

theorem implGoodCmd (k i f t a : Int) : impl_GoodCmd.f k i f t a = some (Mine.goodCmdB k i f t a) := by
  unfold impl_GoodCmd.f impl_isAccount.f Mine.goodCmdB
  simp only [within_f, Option.bind_some]
  by_cases h0 : k = 0
  · simp [h0]
  · rw [if_neg h0, if_neg h0]
    by_cases h1 : k = 1
    · rw [if_pos h1, if_pos h1]
      by_cases hft : f = t
      · cases Mine.inB 1 999 i <;> cases Mine.inB 0 3 f <;> cases Mine.inB 0 3 t <;> simp [hft]
      · cases Mine.inB 1 999 i <;> cases Mine.inB 0 3 f <;> cases Mine.inB 0 3 t <;> cases Mine.inB 1 1000 a <;> simp [hft]
    · rw [if_neg h1, if_neg h1]
      by_cases h2 : k = 2
      · rw [if_pos h2, if_pos h2]
        by_cases ht : t = 0
        · cases Mine.inB 1 999 i <;> cases Mine.inB 0 3 f <;> simp [ht]
        · cases Mine.inB 1 999 i <;> cases Mine.inB 0 3 f <;> simp [ht]
      · rw [if_neg h2, if_neg h2]

theorem implApply_f (l : List Int) (k i f t a : Int) (hl : l.length = 4) (h : Mine.goodCmdB k i f t a = true) : impl_apply.f l k i f t a = some ((applyL l k f t a).2.1, (applyL l k f t a).2.2, (applyL l k f t a).1) := by
  unfold impl_apply.f applyL
  rcases good_parts h with ⟨rfl, _, rfl, rfl, _⟩ | ⟨rfl, _, hf, ht, hne, _⟩ | ⟨rfl, _, hf, _⟩
  · simp
  · have hfl : f < (l.length : Int) := by omega
    have htl : t < (l.length : Int) := by omega
    simp only [if_neg (show ¬ (1 : Int) = 2 by omega), if_neg (show ¬ (1 : Int) = 0 by omega), if_pos hf.1, if_pos hfl, if_pos (rfl : (1 : Int) = 1), if_pos ht.1, if_pos htl, Option.bind_some]
    unfold rd
    by_cases hlt : l.getD f.toNat 0 < a
    · simp only [if_pos hlt, if_true]
    · simp only [if_neg hlt, if_true]
  · have hfl : f < (l.length : Int) := by omega
    simp only [if_pos (rfl : (2 : Int) = 2), if_pos hf.1, if_pos hfl, if_true]; rfl

def applyR (l : List Int) (k i f t a : Int) : List Int × Int × Int × Bool :=
  if goodSumsB l = true ∧ Mine.goodCmdB k i f t a = true then ((applyL l k f t a).1, (applyL l k f t a).2.1, (applyL l k f t a).2.2, true) else ([], 0, 0, false)
theorem goodSums_len {l : List Int} (h : goodSumsB l = true) : l.length = 4 := by
  unfold goodSumsB at h
  simp only [Bool.and_eq_true, decide_eq_true_eq] at h
  omega
theorem specApplyCmd_ev (l : List Int) (k0 i f t a : Int) (hm : l.length ≤ 9223372036854775807) : Ev (fun k => spec_ApplyCmd.f k l k0 i f t a) (applyR l k0 i f t a) := by
  unfold spec_ApplyCmd.f applyR
  refine Ev.bind (specSums_ev l hm) ?_
  cases hs : goodSumsB l with
  | false => simpa using Ev.now _
  | true =>
    simp only [if_true, specGoodCmd, Option.bind_some]
    cases hg : Mine.goodCmdB k0 i f t a with
    | false => simpa using Ev.now _
    | true => simp only [if_true, specApply_f l k0 i f t a (goodSums_len hs) hg, Option.bind_some, and_self]; exact Ev.now _
theorem implApplyCmd_ev (l : List Int) (k0 i f t a : Int) (hm : l.length ≤ 9223372036854775807) : Ev (fun k => impl_ApplyCmd.f k l k0 i f t a) (applyR l k0 i f t a) := by
  unfold impl_ApplyCmd.f applyR
  refine Ev.bind (implSums_ev l hm) ?_
  cases hs : goodSumsB l with
  | false =>
    simp only [Bool.false_eq_true, if_false, false_and]
    exact Ev.step (f := fun _ => some _) (fun k => by simp only [impl_ApplyCmd.j0]; rw [if_pos trivial]) (Ev.now _)
  | true =>
    simp only [if_true, implGoodCmd, Option.bind_some]
    cases hg : Mine.goodCmdB k0 i f t a with
    | false =>
      simp only [Bool.false_eq_true, and_false, if_false]
      exact Ev.step (f := fun _ => some _) (fun k => by simp only [impl_ApplyCmd.j0]; first | rfl | simp) (Ev.now _)
    | true =>
      have hl := goodSums_len hs
      simp only [and_self, if_true]
      refine Ev.step (f := fun _ => some _) (fun k => ?_) (Ev.now _)
      simp only [impl_ApplyCmd.j0]
      have hc : slices_Clone_int_int.f l = some l := by unfold slices_Clone_int_int.f; rw [if_pos (by omega)]
      rw [if_neg (by simp), hc, Option.bind_some, implApply_f l k0 i f t a hl hg, Option.bind_some]
theorem FnExactApplyCmd : laws_FnExactApplyCmd.Pure := by
  rintro l ⟨k0, i, f, t, a⟩ ⟨hl, _⟩ _
  by_cases hbig : (l.length : Int) > 1048576
  · exact ⟨0, by unfold laws_FnExactApplyCmd.f; rw [if_pos hbig]⟩
  have ht := toIntS_ev l (by omega)
  have h1 := specApplyCmd_ev l k0 i f t a hl
  have h2 := implApplyCmd_ev l k0 i f t a hl
  have hlen : (applyR l k0 i f t a).1.length ≤ 1048576 := by
    unfold applyR; split
    · show (applyL l k0 f t a).1.length ≤ _
      rw [applyL_length]; omega
    · simp
  generalize applyR l k0 i f t a = r at h1 h2 hlen
  obtain ⟨w, c, s, b⟩ := r
  dsimp only at hlen
  have hq := eqIntS_ev w (by omega)
  have heq : ∀ c s : Int, laws_eqTold.f c s c s = some true := fun c s => by unfold laws_eqTold.f; rw [if_pos rfl, if_pos rfl]
  refine Ev.rounds (g := fun k => laws_FnExactApplyCmd.f k l k0 i f t a) (Ev.congr (f := fun k => _) (fun k => by unfold laws_FnExactApplyCmd.f; rw [if_neg hbig]) ?_)
  refine Ev.bind ht ?_
  simp only [laws_toCmd.f, Option.bind_some]
  refine Ev.bind h1 (Ev.bind ht (Ev.bind h2 (Ev.bind hq ?_)))
  simp only [if_true, heq, Option.bind_some, bne_self_eq_false]
  refine Ev.step (fun k => by simp only [laws_FnExactApplyCmd.j0]; rw [if_neg (by simp)]) (Ev.bind ht (Ev.bind (eqIntS_ev l hl) ?_))
  simp only [if_true]
  refine Ev.bind (markIntS_ev l 1 hl (by omega) (by omega)) ?_
  simp only [if_neg (show ¬ (1 + (l.length : Int)) < 0 by omega)]
  refine Ev.bind hq ?_
  simp only [if_true, heq, Option.bind_some, bne_self_eq_false]
  refine Ev.step (fun k => by simp only [laws_FnExactApplyCmd.j1]; rw [if_neg (by simp)]) (Ev.bind (markIntS_ev w 1 (by omega) (by omega) (by omega)) (Ev.bind (heldIntS_ev 1 w.length (by omega) (by omega) (by omega)) ?_))
  simp only [if_neg (show ¬ (1 + (w.length : Int)) < 0 by omega), if_true]
  refine Ev.bind ht ?_
  simp only [laws_toCmd.f, Option.bind_some]
  refine Ev.bind h2 (Ev.bind hq ?_)
  simp only [if_true, heq, Option.bind_some, bne_self_eq_false]
  refine Ev.step (fun k => by simp only [laws_FnExactApplyCmd.j2]; rw [if_neg (by simp)]) (Ev.bind (heldIntS_ev 1 w.length (by omega) (by omega) (by omega)) ?_)
  simp only [if_neg (show ¬ (1 + (w.length : Int)) < 0 by omega), if_true]
  exact Ev.now true

end Go.Proofs.Ytbhhgeecieeefaa.Pure
