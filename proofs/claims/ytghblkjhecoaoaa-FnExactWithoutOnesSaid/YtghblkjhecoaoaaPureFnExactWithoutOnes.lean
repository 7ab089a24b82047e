/- The law FnExactWithoutOnes holds, for every input. -/
import Derived.Test.YtghblkjhecoaoaaQFnExactWithoutOnesx3
import Derived.Test.YtghblkjhecoaoaaMine
namespace Go.Proofs.Ytghblkjhecoaoaa.Pure
open Go.RowKit Go.Proofs.Ytghblkjhecoaoaa.QFnExactWithoutOnes Go.Proofs.YtghblkjhecoaoaaW.PrintWords Go.Proofs.YtghblkjhecoaoaaW.PrintLast Go.Proofs.YtghblkjhecoaoaaW.PrintMore
set_option linter.unusedVariables false
set_option linter.unusedSimpArgs false

theorem wrap_next {i : Nat} {n : Nat} (h : i < n) (hn : n ≤ 9223372036854775807) : wrap64 ((i : Int) + 1) = ((i + 1 : Nat) : Int) := by
  unfold wrap64
  omega
theorem rd_nat (l : List Int) (i : Nat) : rd l (i : Int) = l.getD i 0 := by unfold rd; rw [Int.toNat_natCast]
theorem wrap_small {x : Int} (h0 : -9223372036854775808 ≤ x) (h1 : x ≤ 9223372036854775807) : wrap64 x = x := by unfold wrap64; omega
theorem Ev.const {α : Type} {o : Option α} {a : α} (h : o = some a) : Ev (fun _ => o) a := ⟨0, fun _ _ => h⟩
theorem Ev.map {α β : Type} {g : Nat → Option α} {a : α} (h : Ev g a) (f : α → β) : Ev (fun k => (g k).bind fun t => some (f t)) (f a) := by
  obtain ⟨K, h⟩ := h
  exact ⟨K, fun k hk => by show (g k).bind _ = _; rw [h k hk, Option.bind_some]⟩
/-- A loop over a list's elements that ends at the first hit. -/
theorem loop_any {α ρ : Type} (F : Nat → Int → Option ρ) (xs : List α) (d : α) (p : α → Bool) (hit miss : ρ)
    (hs : ∀ i, i < xs.length → (p (xs.getD i d) = true → Ev (fun k => F k (i : Int)) hit) ∧ (p (xs.getD i d) = false → ∀ r, Ev (fun k => F k ((i + 1 : Nat) : Int)) r → Ev (fun k => F k (i : Int)) r))
    (he : Mine.anyP p xs = false → Ev (fun k => F k (xs.length : Int)) miss) : Ev (fun k => F k 0) (if Mine.anyP p xs = true then hit else miss) := by
  have key : ∀ (n i : Nat), xs.length - i = n → i ≤ xs.length → Mine.anyP p (xs.take i) = false → Ev (fun k => F k (i : Int)) (if Mine.anyP p (xs.drop i) = true then hit else miss) := by
    intro n
    induction n with
    | zero =>
      intro i hn hi hb
      obtain rfl : i = xs.length := by omega
      rw [List.drop_eq_nil_of_le (Nat.le_refl _)]
      rw [List.take_of_length_le (Nat.le_refl _)] at hb
      simpa [Mine.anyP] using he hb
    | succ n ih =>
      intro i hn hi hb
      rw [Mine.drop_at xs d i (by omega), Mine.anyP_cons]
      cases hp : p (xs.getD i d) with
      | true => simpa using (hs i (by omega)).1 hp
      | false =>
        have hb' : Mine.anyP p (xs.take (i + 1)) = false := by
          have e : xs.take (i + 1) = xs.take i ++ [xs.getD i d] := by
            rw [List.take_add_one, List.getD_eq_getElem?_getD, List.getElem?_eq_getElem (show i < xs.length by omega)]; rfl
          rw [e]
          unfold Mine.anyP at hb ⊢
          rw [List.any_append, hb, List.any_cons, hp]
          rfl
        simpa using (hs i (by omega)).2 hp _ (ih (i + 1) (by omega) (by omega) hb')
  simpa using key xs.length 0 (by omega) (by omega) (by simp [Mine.anyP])
/-- What a loop over a list's elements comes to: a state that goes on, or a result. -/
def scan {σ α ρ : Type} (step : α → σ → Sum σ ρ) (fin : σ → ρ) : List α → σ → ρ
  | [], s => fin s
  | x :: xs, s => match step x s with
    | .inl s' => scan step fin xs s'
    | .inr r => r
theorem loop_scan {σ α ρ : Type} (F : Nat → σ → Int → Option ρ) (xs : List α) (d : α) (step : α → σ → Sum σ ρ) (fin : σ → ρ) (P : Nat → σ → Prop)
    (hs : ∀ (i : Nat) (s : σ), i < xs.length → P i s → (∀ s', step (xs.getD i d) s = .inl s' → P (i + 1) s' ∧ ∀ r, Ev (fun k => F k s' ((i + 1 : Nat) : Int)) r → Ev (fun k => F k s (i : Int)) r) ∧ (∀ r, step (xs.getD i d) s = .inr r → Ev (fun k => F k s (i : Int)) r))
    (he : ∀ s, P xs.length s → Ev (fun k => F k s (xs.length : Int)) (fin s)) (s : σ) (h0 : P 0 s) : Ev (fun k => F k s 0) (scan step fin xs s) := by
  have key : ∀ (n i : Nat) (s : σ), xs.length - i = n → i ≤ xs.length → P i s → Ev (fun k => F k s (i : Int)) (scan step fin (xs.drop i) s) := by
    intro n
    induction n with
    | zero =>
      intro i s hn hi hp
      obtain rfl : i = xs.length := by omega
      rw [List.drop_eq_nil_of_le (Nat.le_refl _)]
      exact he s hp
    | succ n ih =>
      intro i s hn hi hp
      rw [Mine.drop_at xs d i (by omega), scan]
      cases hst : step (xs.getD i d) s with
      | inl s' => exact ((hs i s (by omega) hp).1 s' hst).2 _ (ih (i + 1) s' (by omega) (by omega) ((hs i s (by omega) hp).1 s' hst).1)
      | inr r => exact (hs i s (by omega) hp).2 r hst
  simpa using key xs.length 0 s (by omega) (by omega) h0

theorem specGroup (n : Int) : spec_IsGroup.f n = some (decide (n = 3 ∨ n = 5)) := by
  unfold spec_IsGroup.f
  by_cases h : n = 3
  · rw [if_pos h]; simp [h]
  · rw [if_neg h]; by_cases h5 : n = 5 <;> simp [h, h5]

theorem implGroup (n : Int) : impl_IsGroup.f n = some (decide (n = 3 ∨ n = 5)) := by
  unfold impl_IsGroup.f
  by_cases h : n = 3
  · rw [if_pos h]; simp [h]
  · rw [if_neg h]; by_cases h5 : n = 5 <;> simp [h, h5]

theorem l1In_f (a b c : Int) : spec_l1In.f a b c = some (Mine.inB b c a) := by
  unfold spec_l1In.f Mine.inB
  by_cases h : a ≥ b
  · rw [if_pos h]; simp [show b ≤ a from h]
  · rw [if_neg h]; simp [show ¬ b ≤ a from h]

theorem l1All_l (xs : List Int) (lo hi : Int) (hm : xs.length ≤ 9223372036854775807) : ∀ (d i : Nat), xs.length - i = d → Ev (fun k => spec_l1All.l0 k lo hi xs (xs.length : Int) (i : Int)) (!Mine.anyP (Mine.outB lo hi) (xs.drop i)) := by
  intro d
  induction d with
  | zero =>
    intro i hd
    rw [List.drop_eq_nil_of_le (by omega)]
    exact Ev.step (f := fun _ => some true) (fun k => by simp only [spec_l1All.l0]; rw [if_neg (by omega)]) (Ev.now _)
  | succ d ih =>
    intro i hd
    have hlt : i < xs.length := by omega
    rw [Mine.drop_at xs 0 i hlt, Mine.anyP_cons]
    have body : ∀ k, spec_l1All.l0 (k + 1) lo hi xs (xs.length : Int) (i : Int) = if Mine.inB lo hi (xs.getD i 0) = true then spec_l1All.l0 k lo hi xs (xs.length : Int) ((i + 1 : Nat) : Int) else some false := by
      intro k
      simp only [spec_l1All.l0]
      rw [if_pos (by omega), if_pos (by omega), if_pos (by omega), rd_nat, l1In_f, Option.bind_some, wrap_next hlt hm]
    cases hb : Mine.inB lo hi (xs.getD i 0) with
    | true =>
      refine Ev.step (f := fun k => spec_l1All.l0 k lo hi xs (xs.length : Int) ((i + 1 : Nat) : Int)) (fun k => by rw [body, if_pos hb]) ?_
      have : Mine.outB lo hi (xs.getD i 0) = false := by unfold Mine.outB; rw [hb]; rfl
      rw [this, Bool.false_or]
      exact ih (i + 1) (by omega)
    | false =>
      refine Ev.step (f := fun _ => some false) (fun k => by rw [body, if_neg (by rw [hb]; simp)]) ?_
      have : Mine.outB lo hi (xs.getD i 0) = true := by unfold Mine.outB; rw [hb]; rfl
      rw [this, Bool.true_or]
      exact Ev.now _
theorem l1All_ev (xs : List Int) (lo hi : Int) (hm : xs.length ≤ 9223372036854775807) : Ev (fun k => spec_l1All.f k xs lo hi) (!Mine.anyP (Mine.outB lo hi) xs) := l1All_l xs lo hi hm _ 0 rfl

theorem l1Has_ev (l : List Int) (n : Int) (hm : l.length ≤ 9223372036854775807) : Ev (fun k => spec_l1Has.f k l n) (Mine.anyP (fun x => x == n) l) := by
  have h := loop_any (fun k => spec_l1Has.l0 k n l (l.length : Int)) l 0 (fun x => x == n) true false (by
    intro i hlt
    have body : ∀ k, spec_l1Has.l0 (k + 1) n l (l.length : Int) (i : Int) = if l.getD i 0 = n then some true else spec_l1Has.l0 k n l (l.length : Int) ((i + 1 : Nat) : Int) := by
      intro k
      simp only [spec_l1Has.l0]
      rw [if_pos (by omega), if_pos (by omega), if_pos (by omega), rd_nat, wrap_next hlt hm]
    refine ⟨fun hp => Ev.step (f := fun _ => some true) (fun k => by rw [body, if_pos (by simpa using hp)]) (Ev.now _), fun hp r hr => Ev.step (fun k => by rw [body, if_neg (by simpa using hp)]) hr⟩) (fun _ => Ev.step (f := fun _ => some false) (fun k => by simp only [spec_l1Has.l0]; rw [if_neg (by omega)]) (Ev.now _))
  have e : (if Mine.anyP (fun x => x == n) l = true then true else false) = Mine.anyP (fun x => x == n) l := by cases Mine.anyP (fun x => x == n) l <;> rfl
  rw [e] at h
  exact h

theorem within_f (a b c : Int) : impl_within.f a b c = some (Mine.inB b c a) := by
  unfold impl_within.f Mine.inB
  by_cases h : b ≤ a
  · rw [if_pos h]; simp [h]
  · rw [if_neg h]; simp [h]

/-- Where a number stands first. -/
def idxI (n : Int) : List Int → Int → Int
  | [], _ => -1
  | x :: xs, i => if n = x then i else idxI n xs (i + 1)
theorem index_l (xs : List Int) (n : Int) (hm : xs.length ≤ 9223372036854775807) : ∀ (d i : Nat), xs.length - i = d → Ev (fun k => slices_Index_int_int.l0 k xs n (xs.length : Int) (i : Int)) (idxI n (xs.drop i) i) := by
  intro d
  induction d with
  | zero => intro i hd; rw [List.drop_eq_nil_of_le (by omega)]; exact Ev.step (f := fun _ => some (-1)) (fun k => by simp only [slices_Index_int_int.l0]; rw [if_neg (by omega)]) (Ev.now _)
  | succ d ih =>
    intro i hd
    have hlt : i < xs.length := by omega
    rw [Mine.drop_at xs 0 i hlt, idxI]
    have body : ∀ k, slices_Index_int_int.l0 (k + 1) xs n (xs.length : Int) (i : Int) = if n = xs.getD i 0 then some (i : Int) else slices_Index_int_int.l0 k xs n (xs.length : Int) ((i + 1 : Nat) : Int) := by
      intro k
      simp only [slices_Index_int_int.l0]
      rw [if_pos (by omega), if_pos (by omega), if_pos (by omega), rd_nat, wrap_next hlt hm]
    by_cases h : n = xs.getD i 0
    · rw [if_pos h]; exact Ev.step (f := fun _ => some (i : Int)) (fun k => by rw [body, if_pos h]) (Ev.now _)
    · rw [if_neg h]; exact Ev.step (fun k => by rw [body, if_neg h]) (by simpa using ih (i + 1) (by omega))
theorem idxI_any (n : Int) : ∀ (xs : List Int) (i : Int), 0 ≤ i → decide (idxI n xs i ≥ 0) = Mine.anyP (fun x => x == n) xs
  | [], i, _ => by simp [idxI, Mine.anyP]
  | x :: xs, i, hi => by
    rw [idxI, Mine.anyP_cons]
    by_cases h : n = x
    · rw [if_pos h]; simp [h, hi]
    · rw [if_neg h, idxI_any n xs (i + 1) (by omega)]; simp [show ¬ x = n from fun e => h e.symm]
theorem index_ev (xs : List Int) (n : Int) (hm : xs.length ≤ 9223372036854775807) : Ev (fun k => slices_Index_int_int.f k xs n) (idxI n xs 0) := by
  simpa [slices_Index_int_int.f] using index_l xs n hm _ 0 rfl

theorem contains_ev (xs : List Int) (n : Int) (hm : xs.length ≤ 9223372036854775807) : Ev (fun k => slices_Contains_int_int.f k xs n) (Mine.anyP (fun x => x == n) xs) := by
  have h := Ev.map (index_ev xs n hm) (fun t => decide (t ≥ 0))
  rw [idxI_any n xs 0 (Int.le_refl 0)] at h
  exact h

theorem toIntS_l (xs : List Int) (hm : xs.length ≤ 9223372036854775807) : ∀ (d i : Nat) (acc : List Int), xs.length - i = d → i ≤ xs.length → acc.length = xs.length → acc.take i = xs.take i → Ev (fun k => laws_toIntS.l0 k xs acc (i : Int)) xs := by
  intro d
  induction d with
  | zero =>
    intro i acc hd hi hl ht
    have e : acc = xs := Mine.take_all (i := i) (by omega) hl ht
    exact Ev.step (f := fun _ => some xs) (fun k => by simp only [laws_toIntS.l0]; rw [if_neg (by omega), e]) (Ev.now _)
  | succ d ih =>
    intro i acc hd hi hl ht
    refine Ev.step (f := fun k => laws_toIntS.l0 k xs (acc.set i (xs.getD i 0)) ((i + 1 : Nat) : Int)) (fun k => ?_) (ih (i + 1) _ (by omega) (by omega) (by simpa using hl) (Mine.take_set xs acc 0 i (by omega) hl ht))
    simp only [laws_toIntS.l0]
    rw [if_pos (by omega), if_pos (by omega), if_pos (by omega), wrap_next (n := xs.length) (by omega) hm, rd_nat, Int.toNat_natCast]
/-- A copy of numbers. -/
theorem toIntS_ev (xs : List Int) (hm : xs.length ≤ 1048576) : Ev (fun k => laws_toIntS.f k xs) xs := by
  refine Ev.congr (f := fun k => laws_toIntS.l0 k xs (List.replicate xs.length 0) ((0 : Nat) : Int)) (fun k => ?_) (toIntS_l xs (by omega) _ 0 _ rfl (by omega) (by simp) (by simp))
  unfold laws_toIntS.f
  rw [if_pos (by omega), if_pos (by omega)]
  simp

theorem eqIntS_l (xs : List Int) (hm : xs.length ≤ 9223372036854775807) : ∀ (d i : Nat), xs.length - i = d → Ev (fun k => laws_eqIntS.l0 k xs xs (i : Int)) true := by
  intro d
  induction d with
  | zero => intro i hd; exact Ev.step (f := fun _ => some true) (fun k => by simp only [laws_eqIntS.l0]; rw [if_neg (by omega)]) (Ev.now _)
  | succ d ih =>
    intro i hd
    refine Ev.step (f := fun k => laws_eqIntS.l0 k xs xs ((i + 1 : Nat) : Int)) (fun k => ?_) (ih (i + 1) (by omega))
    simp only [laws_eqIntS.l0]
    rw [if_pos (by omega), if_pos (by omega), if_pos (by omega), if_pos trivial, wrap_next (n := xs.length) (by omega) hm]
/-- Numbers are the same as themselves. -/
theorem eqIntS_ev (xs : List Int) (hm : xs.length ≤ 9223372036854775807) : Ev (fun k => laws_eqIntS.f k xs xs) true := by
  refine Ev.congr (f := fun k => laws_eqIntS.l0 k xs xs ((0 : Nat) : Int)) (fun k => ?_) (eqIntS_l xs hm _ 0 rfl)
  unfold laws_eqIntS.f
  rw [if_pos rfl]
  rfl

theorem markIntS_l (m : Int) (n : Nat) (hm : n ≤ 9223372036854775807) (h0 : 0 ≤ m) (h1 : m + n ≤ 9223372036854775807) : ∀ (d i : Nat) (acc : List Int), n - i = d → i ≤ n → acc.length = n → acc.take i = (Mine.seqI m n).take i →
    Ev (fun k => laws_markIntS.l0 k acc (m + (i : Int)) (i : Int)) (m + (n : Int), Mine.seqI m n) := by
  intro d
  induction d with
  | zero =>
    intro i acc hd hi hl ht
    obtain rfl : i = n := by omega
    have e : acc = Mine.seqI m i := Mine.take_all (i := i) (by rw [Mine.seqI_length]; omega) (by rw [Mine.seqI_length]; exact hl) ht
    exact Ev.step (f := fun _ => some _) (fun k => by simp only [laws_markIntS.l0]; rw [if_neg (by omega), e]) (Ev.now _)
  | succ d ih =>
    intro i acc hd hi hl ht
    have hs := Mine.take_set (Mine.seqI m n) acc 0 i (by rw [Mine.seqI_length]; omega) (by rw [Mine.seqI_length]; exact hl) ht
    rw [Mine.seqI_get m n i 0 (by omega)] at hs
    refine Ev.step (f := fun k => laws_markIntS.l0 k (acc.set i (m + (i : Int))) (m + ((i + 1 : Nat) : Int)) ((i + 1 : Nat) : Int)) (fun k => ?_) (ih (i + 1) _ (by omega) (by omega) (by simpa using hl) hs)
    have hw : wrap64 (m + (i : Int) + 1) = m + ((i + 1 : Nat) : Int) := by unfold wrap64; omega
    simp only [laws_markIntS.l0]
    rw [if_pos (by omega), if_pos (by omega), hw, wrap_next (n := n) (by omega) hm, Int.toNat_natCast]
/-- A row is written over with numbers that go on. -/
theorem markIntS_ev (l : List Int) (m : Int) (hm : l.length ≤ 9223372036854775807) (h0 : 0 ≤ m) (h1 : m + l.length ≤ 9223372036854775807) : Ev (fun k => laws_markIntS.f k l m) (m + (l.length : Int), Mine.seqI m l.length) := by
  have := markIntS_l m l.length hm h0 h1 _ 0 l rfl (by omega) rfl (by simp)
  unfold laws_markIntS.f
  simpa using this

theorem heldIntS_l (m : Int) (n : Nat) (hm : n ≤ 9223372036854775807) (h0 : 0 ≤ m) (h1 : m + n ≤ 9223372036854775807) : ∀ (d i : Nat), n - i = d → i ≤ n →
    Ev (fun k => laws_heldIntS.l0 k (Mine.seqI m n) (m + (i : Int)) (i : Int)) (m + (n : Int)) := by
  intro d
  induction d with
  | zero =>
    intro i hd hi
    obtain rfl : i = n := by omega
    exact Ev.step (f := fun _ => some _) (fun k => by simp only [laws_heldIntS.l0]; rw [if_neg (by rw [Mine.seqI_length]; omega)]) (Ev.now _)
  | succ d ih =>
    intro i hd hi
    refine Ev.step (f := fun k => laws_heldIntS.l0 k (Mine.seqI m n) (m + ((i + 1 : Nat) : Int)) ((i + 1 : Nat) : Int)) (fun k => ?_) (ih (i + 1) (by omega) (by omega))
    have hw : wrap64 (m + (i : Int) + 1) = m + ((i + 1 : Nat) : Int) := by unfold wrap64; omega
    simp only [laws_heldIntS.l0]
    rw [if_pos (by rw [Mine.seqI_length]; omega), if_pos (by omega), rd_nat, Mine.seqI_get m n i 0 (by omega), if_pos rfl, hw, wrap_next (n := n) (by omega) hm]
/-- A row that was written so is found so. -/
theorem heldIntS_ev (m : Int) (n : Nat) (hm : n ≤ 9223372036854775807) (h0 : 0 ≤ m) (h1 : m + n ≤ 9223372036854775807) : Ev (fun k => laws_heldIntS.f k (Mine.seqI m n) m) (m + (n : Int)) := by
  have := heldIntS_l m n hm h0 h1 _ 0 rfl (by omega)
  unfold laws_heldIntS.f
  simpa using this

/-- The numbers from i on, below n, that are not in a list. -/
def without (gone : List Int) : Nat → Int → List Int
  | 0, _ => []
  | n + 1, i => if Mine.anyP (fun x => x == i) gone = true then without gone n (i + 1) else i :: without gone n (i + 1)
theorem without_len (gone : List Int) : ∀ (n : Nat) (i : Int), (without gone n i).length ≤ n
  | 0, _ => Nat.le_refl _
  | n + 1, i => by
    have := without_len gone n (i + 1)
    rw [without]; split
    · omega
    · rw [List.length_cons]; omega
theorem without_l (F : Nat → List Int → Int → Option (List Int × Bool)) (gone : List Int) (n : Nat) (hn : n ≤ 5)
    (body : ∀ (acc : List Int) (i : Nat) (r : List Int × Bool), i < n → acc.length ≤ 5 → Ev (fun k => F k (if Mine.anyP (fun x => x == (i : Int)) gone = true then acc else acc ++ [(i : Int)]) ((i + 1 : Nat) : Int)) r → Ev (fun k => F k acc (i : Int)) r)
    (he : ∀ acc, Ev (fun k => F k acc (n : Int)) (acc, true)) : ∀ (d i : Nat) (acc : List Int), n - i = d → i ≤ n → acc.length ≤ i → Ev (fun k => F k acc (i : Int)) (acc ++ without gone d i, true) := by
  intro d
  induction d with
  | zero => intro i acc hd hi ha; obtain rfl : i = n := (by omega); rw [without, List.append_nil]; exact he acc
  | succ d ih =>
    intro i acc hd hi ha
    refine body acc i _ (by omega) (by omega) ?_
    by_cases h : Mine.anyP (fun x => x == (i : Int)) gone = true
    · rw [if_pos h, without, if_pos h]; exact ih (i + 1) acc (by omega) (by omega) (by omega)
    · rw [if_neg h, without, if_neg h]
      have := ih (i + 1) (acc ++ [(i : Int)]) (by omega) (by omega) (by rw [List.length_append]; simp; omega)
      rwa [List.append_assoc] at this
def withoutR (n : Int) (gone : List Int) : List Int × Bool := if (n = 3 ∨ n = 5) ∧ Mine.anyP (Mine.outB 0 (wrap64 (n - 1))) gone = false then (without gone n.toNat 0, true) else ([], false)
theorem specWithout_ev (n : Int) (gone : List Int) (hm : gone.length ≤ 9223372036854775807) : Ev (fun k => spec_WithoutOnes.f k n gone) (withoutR n gone) := by
  unfold spec_WithoutOnes.f withoutR
  rw [specGroup]
  simp only [Option.bind_some]
  by_cases hg : n = 3 ∨ n = 5
  · rw [decide_eq_true hg]
    simp only [if_true]
    refine Ev.bind (l1All_ev gone 0 (wrap64 (n - 1)) hm) ?_
    cases ha : Mine.anyP (Mine.outB 0 (wrap64 (n - 1))) gone with
    | true => rw [if_neg (by simp)]; exact Ev.step (f := fun _ => some _) (fun k => by simp only [spec_WithoutOnes.j0]; first | rfl | simp) (Ev.now _)
    | false =>
      rw [if_pos ⟨hg, rfl⟩]
      refine Ev.step (fun k => by simp only [spec_WithoutOnes.j0]; first | rfl | simp) (?_ : Ev (fun k => spec_WithoutOnes.l0 k n gone [] 0) _)
      have hN : (n.toNat : Int) = n := by omega
      have := without_l (fun k => spec_WithoutOnes.l0 k n gone) gone n.toNat (by omega) (by
        intro acc i r hi hl hr
        refine Ev.step (fun k => by simp only [spec_WithoutOnes.l0]; rw [if_pos (by omega)]) (Ev.bind (l1Has_ev gone (i : Int) hm) ?_)
        have hw : wrap64 ((i : Int) + 1) = ((i + 1 : Nat) : Int) := by unfold wrap64; omega
        by_cases h : Mine.anyP (fun x => x == (i : Int)) gone = true
        · rw [if_pos h] at hr; simp only [h, if_true, hw]; exact hr
        · rw [if_neg h] at hr; simp only [h, if_false, if_pos (show acc.length < 17592186044416 by omega), hw]; exact hr)
        (fun acc => Ev.step (f := fun _ => some _) (fun k => by simp only [spec_WithoutOnes.l0]; rw [if_neg (by omega)]) (Ev.now _)) n.toNat 0 [] (by omega) (by omega) (by simp)
      simpa using this
  · rw [decide_eq_false hg, if_neg (fun h => hg h.1)]
    simp only [Bool.false_eq_true, if_false]
    exact Ev.step (f := fun _ => some _) (fun k => by simp only [spec_WithoutOnes.j0]; first | rfl | simp) (Ev.now _)
theorem implWithout_ev (n : Int) (gone : List Int) (hm : gone.length ≤ 9223372036854775807) : Ev (fun k => impl_WithoutOnes.f k n gone) (withoutR n gone) := by
  unfold impl_WithoutOnes.f withoutR impl_WithoutOnes_1_in_c.f
  rw [implGroup, Mine.anyO_total (q := Mine.outB 0 (wrap64 (n - 1))) (fun x _ => by unfold impl_WithoutOnes_1.f; rw [within_f, Option.bind_some]; rfl)]
  simp only [Option.bind_some]
  by_cases hg : n = 3 ∨ n = 5
  · rw [decide_eq_true hg]
    simp only [if_true]
    cases ha : Mine.anyP (Mine.outB 0 (wrap64 (n - 1))) gone with
    | true => rw [if_neg (by simp)]; exact Ev.step (f := fun _ => some _) (fun k => by simp only [impl_WithoutOnes.j0]; first | rfl | simp) (Ev.now _)
    | false =>
      rw [if_pos ⟨hg, rfl⟩]
      refine Ev.step (fun k => by simp only [impl_WithoutOnes.j0]; first | rfl | simp) (?_ : Ev (fun k => impl_WithoutOnes.l0 k gone [] n 0) _)
      have := without_l (fun k acc i => impl_WithoutOnes.l0 k gone acc n i) gone n.toNat (by omega) (by
        intro acc i r hi hl hr
        refine Ev.step (fun k => by simp only [impl_WithoutOnes.l0]; rw [if_pos (by omega)]) (Ev.bind (contains_ev gone (i : Int) hm) ?_)
        have hw : wrap64 ((i : Int) + 1) = ((i + 1 : Nat) : Int) := by unfold wrap64; omega
        by_cases h : Mine.anyP (fun x => x == (i : Int)) gone = true
        · rw [if_pos h] at hr; simp only [h, if_true, hw]; exact hr
        · rw [if_neg h] at hr; simp only [h, if_false, if_pos (show acc.length < 17592186044416 by omega), hw]; exact hr)
        (fun acc => Ev.step (f := fun _ => some _) (fun k => by simp only [impl_WithoutOnes.l0]; rw [if_neg (by omega)]) (Ev.now _)) n.toNat 0 [] (by omega) (by omega) (by simp)
      simpa using this
  · rw [decide_eq_false hg, if_neg (fun h => hg h.1)]
    simp only [Bool.false_eq_true, if_false]
    exact Ev.step (f := fun _ => some _) (fun k => by simp only [impl_WithoutOnes.j0]; first | rfl | simp) (Ev.now _)
theorem withoutR_len (n : Int) (gone : List Int) : (withoutR n gone).1.length ≤ 5 := by
  unfold withoutR
  split
  · rename_i h
    have := without_len gone n.toNat 0
    show (without gone n.toNat 0).length ≤ 5
    omega
  · simp
theorem FnExactWithoutOnes : laws_FnExactWithoutOnes.Pure := by
  intro n l _ hl
  obtain ⟨hl, _⟩ := hl
  by_cases hbig : (l.length : Int) > 1048576
  · exact ⟨0, by unfold laws_FnExactWithoutOnes.f; rw [if_pos hbig]⟩
  have ht := toIntS_ev l (by omega)
  have hlen := withoutR_len n l
  have h1 := specWithout_ev n l hl
  have h2 := implWithout_ev n l hl
  generalize withoutR n l = r at hlen h1 h2
  obtain ⟨w, b⟩ := r
  dsimp only at hlen
  have hq := eqIntS_ev w (by omega)
  unfold laws_FnExactWithoutOnes.Pure at *
  refine Ev.rounds (Ev.congr (f := fun k => _) (fun k => by unfold laws_FnExactWithoutOnes.f; rw [if_neg hbig]) ?_)
  refine Ev.bind ht (Ev.bind h1 (Ev.bind ht (Ev.bind h2 (Ev.bind hq ?_))))
  simp only [if_true, bne_self_eq_false]
  refine Ev.step (fun k => by simp only [laws_FnExactWithoutOnes.j0]; rw [if_neg (by simp)]) (Ev.bind ht (Ev.bind (eqIntS_ev l hl) ?_))
  simp only [if_true]
  refine Ev.bind (markIntS_ev l 1 hl (by omega) (by omega)) ?_
  simp only [if_neg (show ¬ (1 + (l.length : Int)) < 0 by omega)]
  refine Ev.bind hq ?_
  simp only [if_true, bne_self_eq_false]
  refine Ev.step (fun k => by simp only [laws_FnExactWithoutOnes.j1]; rw [if_neg (by simp)]) (Ev.bind (markIntS_ev w 1 (by omega) (by omega) (by omega)) (Ev.bind (heldIntS_ev 1 w.length (by omega) (by omega) (by omega)) ?_))
  simp only [if_neg (show ¬ (1 + (w.length : Int)) < 0 by omega), if_true]
  refine Ev.bind ht (Ev.bind h2 (Ev.bind hq ?_))
  simp only [if_true, bne_self_eq_false]
  refine Ev.step (fun k => by simp only [laws_FnExactWithoutOnes.j2]; rw [if_neg (by simp)]) (Ev.bind (heldIntS_ev 1 w.length (by omega) (by omega) (by omega)) ?_)
  simp only [if_neg (show ¬ (1 + (w.length : Int)) < 0 by omega), if_true]
  exact Ev.now true

end Go.Proofs.Ytghblkjhecoaoaa.Pure
