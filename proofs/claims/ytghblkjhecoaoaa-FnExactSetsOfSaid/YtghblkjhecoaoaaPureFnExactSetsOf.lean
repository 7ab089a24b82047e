/- The law FnExactSetsOf holds, for every input. -/
import Derived.Test.YtghblkjhecoaoaaQFnExactSetsOfx2
import Derived.Test.YtghblkjhecoaoaaMine
namespace Go.Proofs.Ytghblkjhecoaoaa.Pure
open Go.RowKit Go.Proofs.Ytghblkjhecoaoaa.QFnExactSetsOf Go.Proofs.YtghblkjhecoaoaaW.PrintWords Go.Proofs.YtghblkjhecoaoaaW.PrintLast Go.Proofs.YtghblkjhecoaoaaW.PrintMore
set_option linter.unusedVariables false
set_option linter.unusedSimpArgs false

theorem wrap_next {i : Nat} {n : Nat} (h : i < n) (hn : n ≤ 9223372036854775807) : wrap64 ((i : Int) + 1) = ((i + 1 : Nat) : Int) := by
  unfold wrap64
  omega
theorem rd_nat (l : List Int) (i : Nat) : rd l (i : Int) = l.getD i 0 := by unfold rd; rw [Int.toNat_natCast]
theorem wrap_small {x : Int} (h0 : -9223372036854775808 ≤ x) (h1 : x ≤ 9223372036854775807) : wrap64 x = x := by unfold wrap64; omega
theorem Ev.const {α : Type} {o : Option α} {a : α} (h : o = some a) : Ev (fun _ => o) a := ⟨0, fun _ _ => h⟩
theorem Ev.map {α β : Type} {g : Nat → Option α} {a : α} (h : Ev g a) (f : α → β) : Ev (fun k => (g k).bind fun t => some (f t)) (f a) := by
  obtain ⟨K, h⟩ := h
  exact ⟨K, fun k hk => by show (g k).bind _ = _; rw [h k hk, Option.bind_some]⟩
/-- A loop over a list's elements that ends at the first hit. -/
theorem loop_any {α ρ : Type} (F : Nat → Int → Option ρ) (xs : List α) (d : α) (p : α → Bool) (hit miss : ρ)
    (hs : ∀ i, i < xs.length → (p (xs.getD i d) = true → Ev (fun k => F k (i : Int)) hit) ∧ (p (xs.getD i d) = false → ∀ r, Ev (fun k => F k ((i + 1 : Nat) : Int)) r → Ev (fun k => F k (i : Int)) r))
    (he : Mine.anyP p xs = false → Ev (fun k => F k (xs.length : Int)) miss) : Ev (fun k => F k 0) (if Mine.anyP p xs = true then hit else miss) := by
  have key : ∀ (n i : Nat), xs.length - i = n → i ≤ xs.length → Mine.anyP p (xs.take i) = false → Ev (fun k => F k (i : Int)) (if Mine.anyP p (xs.drop i) = true then hit else miss) := by
    intro n
    induction n with
    | zero =>
      intro i hn hi hb
      obtain rfl : i = xs.length := by omega
      rw [List.drop_eq_nil_of_le (Nat.le_refl _)]
      rw [List.take_of_length_le (Nat.le_refl _)] at hb
      simpa [Mine.anyP] using he hb
    | succ n ih =>
      intro i hn hi hb
      rw [Mine.drop_at xs d i (by omega), Mine.anyP_cons]
      cases hp : p (xs.getD i d) with
      | true => simpa using (hs i (by omega)).1 hp
      | false =>
        have hb' : Mine.anyP p (xs.take (i + 1)) = false := by
          have e : xs.take (i + 1) = xs.take i ++ [xs.getD i d] := by
            rw [List.take_add_one, List.getD_eq_getElem?_getD, List.getElem?_eq_getElem (show i < xs.length by omega)]; rfl
          rw [e]
          unfold Mine.anyP at hb ⊢
          rw [List.any_append, hb, List.any_cons, hp]
          rfl
        simpa using (hs i (by omega)).2 hp _ (ih (i + 1) (by omega) (by omega) hb')
  simpa using key xs.length 0 (by omega) (by omega) (by simp [Mine.anyP])
/-- What a loop over a list's elements comes to: a state that goes on, or a result. -/
def scan {σ α ρ : Type} (step : α → σ → Sum σ ρ) (fin : σ → ρ) : List α → σ → ρ
  | [], s => fin s
  | x :: xs, s => match step x s with
    | .inl s' => scan step fin xs s'
    | .inr r => r
theorem loop_scan {σ α ρ : Type} (F : Nat → σ → Int → Option ρ) (xs : List α) (d : α) (step : α → σ → Sum σ ρ) (fin : σ → ρ) (P : Nat → σ → Prop)
    (hs : ∀ (i : Nat) (s : σ), i < xs.length → P i s → (∀ s', step (xs.getD i d) s = .inl s' → P (i + 1) s' ∧ ∀ r, Ev (fun k => F k s' ((i + 1 : Nat) : Int)) r → Ev (fun k => F k s (i : Int)) r) ∧ (∀ r, step (xs.getD i d) s = .inr r → Ev (fun k => F k s (i : Int)) r))
    (he : ∀ s, P xs.length s → Ev (fun k => F k s (xs.length : Int)) (fin s)) (s : σ) (h0 : P 0 s) : Ev (fun k => F k s 0) (scan step fin xs s) := by
  have key : ∀ (n i : Nat) (s : σ), xs.length - i = n → i ≤ xs.length → P i s → Ev (fun k => F k s (i : Int)) (scan step fin (xs.drop i) s) := by
    intro n
    induction n with
    | zero =>
      intro i s hn hi hp
      obtain rfl : i = xs.length := by omega
      rw [List.drop_eq_nil_of_le (Nat.le_refl _)]
      exact he s hp
    | succ n ih =>
      intro i s hn hi hp
      rw [Mine.drop_at xs d i (by omega), scan]
      cases hst : step (xs.getD i d) s with
      | inl s' => exact ((hs i s (by omega) hp).1 s' hst).2 _ (ih (i + 1) s' (by omega) (by omega) ((hs i s (by omega) hp).1 s' hst).1)
      | inr r => exact (hs i s (by omega) hp).2 r hst
  simpa using key xs.length 0 s (by omega) (by omega) h0

theorem specGroup (n : Int) : spec_IsGroup.f n = some (decide (n = 3 ∨ n = 5)) := by
  unfold spec_IsGroup.f
  by_cases h : n = 3
  · rw [if_pos h]; simp [h]
  · rw [if_neg h]; by_cases h5 : n = 5 <;> simp [h, h5]

theorem implGroup (n : Int) : impl_IsGroup.f n = some (decide (n = 3 ∨ n = 5)) := by
  unfold impl_IsGroup.f
  by_cases h : n = 3
  · rw [if_pos h]; simp [h]
  · rw [if_neg h]; by_cases h5 : n = 5 <;> simp [h, h5]

theorem l1In_f (a b c : Int) : spec_l1In.f a b c = some (Mine.inB b c a) := by
  unfold spec_l1In.f Mine.inB
  by_cases h : a ≥ b
  · rw [if_pos h]; simp [show b ≤ a from h]
  · rw [if_neg h]; simp [show ¬ b ≤ a from h]

theorem within_f (a b c : Int) : impl_within.f a b c = some (Mine.inB b c a) := by
  unfold impl_within.f Mine.inB
  by_cases h : b ≤ a
  · rw [if_pos h]; simp [h]
  · rw [if_neg h]; simp [h]

/-- The law's facts, checked by the kernel. -/
def setsCheck (n k : Int) : Bool :=
  match spec_SetsOf.f 100 n k with
  | none => false
  | some (r, b) => decide (impl_SetsOf.f 100 n k = some (r, b)) && (decide (laws_eqIntSS.f 100 r r = some true) && match laws_markIntSS.f 100 r 1 with
    | none => false
    | some (m, rm) => decide (0 ≤ m) && decide (laws_heldIntSS.f 100 rm 1 = some m))
theorem setsCheck_facts {n k : Int} (h : setsCheck n k = true) : laws_FnExactSetsOf.Facts n k := by
  unfold setsCheck at h
  split at h
  · cases h
  · rename_i r b h1
    simp only [Bool.and_eq_true, decide_eq_true_eq] at h
    obtain ⟨h2, h3, h⟩ := h
    split at h
    · cases h
    · rename_i m rm h4
      simp only [Bool.and_eq_true, decide_eq_true_eq] at h
      exact ⟨r, b, ⟨100, h1⟩, ⟨100, h2⟩, ⟨100, h3⟩, m, rm, ⟨100, h.1, h4⟩, ⟨100, h.2⟩, trivial⟩
theorem sets3 : ∀ k : Fin 4, setsCheck 3 (k.val : Int) = true := by decide +kernel
theorem sets5 : ∀ k : Fin 6, setsCheck 5 (k.val : Int) = true := by decide +kernel
theorem sets_not (n k : Int) (h : ¬ ((n = 3 ∨ n = 5) ∧ Mine.inB 0 n k = true)) : laws_FnExactSetsOf.Facts n k := by
  refine ⟨[], false, ⟨0, ?_⟩, ⟨0, ?_⟩, ⟨100, by decide +kernel⟩, 1, [], ⟨100, by decide +kernel⟩, ⟨100, by decide +kernel⟩, trivial⟩
  · unfold spec_SetsOf.f
    rw [specGroup, Option.bind_some, l1In_f, Option.bind_some]
    by_cases hn : n = 3 ∨ n = 5
    · rw [decide_eq_true hn]
      cases hk : Mine.inB 0 n k with
      | true => exact absurd ⟨hn, hk⟩ h
      | false => simp
    · rw [decide_eq_false hn]; simp
  · unfold impl_SetsOf.f
    rw [implGroup, Option.bind_some, within_f, Option.bind_some]
    by_cases hn : n = 3 ∨ n = 5
    · rw [decide_eq_true hn]
      cases hk : Mine.inB 0 n k with
      | true => exact absurd ⟨hn, hk⟩ h
      | false => simp
    · rw [decide_eq_false hn]; simp
theorem FnExactSetsOf : laws_FnExactSetsOf.Pure := by
  intro n k _ _
  have hf : laws_FnExactSetsOf.Facts n k := by
    by_cases h : (n = 3 ∨ n = 5) ∧ Mine.inB 0 n k = true
    · obtain ⟨hn, hk⟩ := h
      obtain ⟨h0, h1⟩ := Mine.inB_iff.1 hk
      rcases hn with rfl | rfl
      · have := setsCheck_facts (sets3 ⟨k.toNat, by omega⟩)
        rwa [show ((⟨k.toNat, by omega⟩ : Fin 4).val : Int) = k from Int.toNat_of_nonneg h0] at this
      · have := setsCheck_facts (sets5 ⟨k.toNat, by omega⟩)
        rwa [show ((⟨k.toNat, by omega⟩ : Fin 6).val : Int) = k from Int.toNat_of_nonneg h0] at this
    · exact sets_not n k h
  exact hf

end Go.Proofs.Ytghblkjhecoaoaa.Pure
