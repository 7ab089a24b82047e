/- The law FnExactAccountOf holds, for every input. -/
import Derived.Test.YtbhdhcflkamieaaQFnExactAccountOfx7
import Derived.Test.YtbhdhcflkamieaaMine
namespace Go.Proofs.Ytbhdhcflkamieaa.Pure
open Go.RowKit Go.Proofs.Ytbhdhcflkamieaa.QFnExactAccountOf Go.Proofs.YtbhdhcflkamieaaW.PrintWords Go.Proofs.YtbhdhcflkamieaaW.PrintLast Go.Proofs.YtbhdhcflkamieaaW.PrintMore
set_option linter.unusedVariables false
set_option linter.unusedSimpArgs false

theorem wrap_next {i : Nat} {n : Nat} (h : i < n) (hn : n ≤ 9223372036854775807) : wrap64 ((i : Int) + 1) = ((i + 1 : Nat) : Int) := by
  unfold wrap64
  omega
theorem rd_nat (l : List Int) (i : Nat) : rd l (i : Int) = l.getD i 0 := by unfold rd; rw [Int.toNat_natCast]
theorem wrap_small {x : Int} (h0 : -9223372036854775808 ≤ x) (h1 : x ≤ 9223372036854775807) : wrap64 x = x := by unfold wrap64; omega
theorem Ev.const {α : Type} {o : Option α} {a : α} (h : o = some a) : Ev (fun _ => o) a := ⟨0, fun _ _ => h⟩
theorem Ev.map {α β : Type} {g : Nat → Option α} {a : α} (h : Ev g a) (f : α → β) : Ev (fun k => (g k).bind fun t => some (f t)) (f a) := by
  obtain ⟨K, h⟩ := h
  exact ⟨K, fun k hk => by show (g k).bind _ = _; rw [h k hk, Option.bind_some]⟩
/-- A loop over a list's elements that ends at the first hit. -/
theorem loop_any {α ρ : Type} (F : Nat → Int → Option ρ) (xs : List α) (d : α) (p : α → Bool) (hit miss : ρ)
    (hs : ∀ i, i < xs.length → (p (xs.getD i d) = true → Ev (fun k => F k (i : Int)) hit) ∧ (p (xs.getD i d) = false → ∀ r, Ev (fun k => F k ((i + 1 : Nat) : Int)) r → Ev (fun k => F k (i : Int)) r))
    (he : Mine.anyP p xs = false → Ev (fun k => F k (xs.length : Int)) miss) : Ev (fun k => F k 0) (if Mine.anyP p xs = true then hit else miss) := by
  have key : ∀ (n i : Nat), xs.length - i = n → i ≤ xs.length → Mine.anyP p (xs.take i) = false → Ev (fun k => F k (i : Int)) (if Mine.anyP p (xs.drop i) = true then hit else miss) := by
    intro n
    induction n with
    | zero =>
      intro i hn hi hb
      obtain rfl : i = xs.length := by omega
      rw [List.drop_eq_nil_of_le (Nat.le_refl _)]
      rw [List.take_of_length_le (Nat.le_refl _)] at hb
      simpa [Mine.anyP] using he hb
    | succ n ih =>
      intro i hn hi hb
      rw [Mine.drop_at xs d i (by omega), Mine.anyP_cons]
      cases hp : p (xs.getD i d) with
      | true => simpa using (hs i (by omega)).1 hp
      | false =>
        have hb' : Mine.anyP p (xs.take (i + 1)) = false := by
          have e : xs.take (i + 1) = xs.take i ++ [xs.getD i d] := by
            rw [List.take_add_one, List.getD_eq_getElem?_getD, List.getElem?_eq_getElem (show i < xs.length by omega)]; rfl
          rw [e]
          unfold Mine.anyP at hb ⊢
          rw [List.any_append, hb, List.any_cons, hp]
          rfl
        simpa using (hs i (by omega)).2 hp _ (ih (i + 1) (by omega) (by omega) hb')
  simpa using key xs.length 0 (by omega) (by omega) (by simp [Mine.anyP])
/-- What a loop over a list's elements comes to: a state that goes on, or a result. -/
def scan {σ α ρ : Type} (step : α → σ → Sum σ ρ) (fin : σ → ρ) : List α → σ → ρ
  | [], s => fin s
  | x :: xs, s => match step x s with
    | .inl s' => scan step fin xs s'
    | .inr r => r
theorem loop_scan {σ α ρ : Type} (F : Nat → σ → Int → Option ρ) (xs : List α) (d : α) (step : α → σ → Sum σ ρ) (fin : σ → ρ) (P : Nat → σ → Prop)
    (hs : ∀ (i : Nat) (s : σ), i < xs.length → P i s → (∀ s', step (xs.getD i d) s = .inl s' → P (i + 1) s' ∧ ∀ r, Ev (fun k => F k s' ((i + 1 : Nat) : Int)) r → Ev (fun k => F k s (i : Int)) r) ∧ (∀ r, step (xs.getD i d) s = .inr r → Ev (fun k => F k s (i : Int)) r))
    (he : ∀ s, P xs.length s → Ev (fun k => F k s (xs.length : Int)) (fin s)) (s : σ) (h0 : P 0 s) : Ev (fun k => F k s 0) (scan step fin xs s) := by
  have key : ∀ (n i : Nat) (s : σ), xs.length - i = n → i ≤ xs.length → P i s → Ev (fun k => F k s (i : Int)) (scan step fin (xs.drop i) s) := by
    intro n
    induction n with
    | zero =>
      intro i s hn hi hp
      obtain rfl : i = xs.length := by omega
      rw [List.drop_eq_nil_of_le (Nat.le_refl _)]
      exact he s hp
    | succ n ih =>
      intro i s hn hi hp
      rw [Mine.drop_at xs d i (by omega), scan]
      cases hst : step (xs.getD i d) s with
      | inl s' => exact ((hs i s (by omega) hp).1 s' hst).2 _ (ih (i + 1) s' (by omega) (by omega) ((hs i s (by omega) hp).1 s' hst).1)
      | inr r => exact (hs i s (by omega) hp).2 r hst
  simpa using key xs.length 0 s (by omega) (by omega) h0

/-- An entry of the laws' own as one of the program's. -/
def cvE (x : S54) : S49 := ⟨x.f0, x.f1, ⟨x.f2.f0, x.f2.f1, x.f2.f2, x.f2.f3, x.f2.f4⟩, ⟨x.f3.f0, x.f3.f1⟩⟩
theorem rdE_nat (l : List S49) (i : Nat) : rd_T49 l (i : Int) = l.getD i z49 := by unfold rd_T49; rw [Int.toNat_natCast]
theorem rdEA_nat (l : List S54) (i : Nat) : rd_T54 l (i : Int) = l.getD i z54 := by unfold rd_T54; rw [Int.toNat_natCast]
theorem getD_mapE {α β : Type} (f : α → β) (xs : List α) (i : Nat) (a : α) (b : β) (h : i < xs.length) : (xs.map f).getD i b = f (xs.getD i a) := by
  simp [List.getD_eq_getElem?_getD, h]
theorem toEntryS_l (xs : List S54) (hm : xs.length ≤ 9223372036854775807) : ∀ (d i : Nat) (acc : List S49), xs.length - i = d → i ≤ xs.length → acc.length = (xs.map cvE).length → acc.take i = (xs.map cvE).take i → Ev (fun k => laws_toEntryS.l0 k xs acc (i : Int)) (xs.map cvE) := by
  intro d
  induction d with
  | zero =>
    intro i acc hd hi hl ht
    have e : acc = xs.map cvE := Mine.take_all (i := i) (by rw [List.length_map]; omega) hl ht
    exact Ev.step (f := fun _ => some (xs.map cvE)) (fun k => by simp only [laws_toEntryS.l0]; rw [if_neg (by omega), e]) (Ev.now _)
  | succ d ih =>
    intro i acc hd hi hl ht
    have hlt : i < xs.length := by omega
    have hs := Mine.take_set (xs.map cvE) acc z49 i (by rw [List.length_map]; exact hlt) hl ht
    rw [getD_mapE cvE xs i z54 z49 hlt] at hs
    refine Ev.step (f := fun k => laws_toEntryS.l0 k xs (acc.set i (cvE (xs.getD i z54))) ((i + 1 : Nat) : Int)) (fun k => ?_) (ih (i + 1) _ (by omega) (by omega) (by rw [List.length_set]; exact hl) hs)
    rw [List.length_map] at hl
    simp only [laws_toEntryS.l0, laws_toEntry.f, laws_toCmd.f, laws_toTold.f, Option.bind_some]
    rw [if_pos (by omega), if_pos (by omega), if_pos (by omega), wrap_next (n := xs.length) hlt hm, rdEA_nat, Int.toNat_natCast]
    rfl
theorem toEntryS_ev (xs : List S54) (hm : xs.length ≤ 1048576) : Ev (fun k => laws_toEntryS.f k xs) (xs.map cvE) := by
  refine Ev.congr (f := fun k => laws_toEntryS.l0 k xs (List.replicate xs.length z49) ((0 : Nat) : Int)) (fun k => ?_) (toEntryS_l xs (by omega) _ 0 _ rfl (by omega) (by simp) (by simp))
  unfold laws_toEntryS.f
  rw [if_pos (by omega), if_pos (by omega)]
  simp
theorem eqEntryS_l (xs : List S49) (hm : xs.length ≤ 9223372036854775807) : ∀ (d i : Nat), xs.length - i = d → Ev (fun k => laws_eqEntryS.l0 k xs xs (i : Int)) true := by
  intro d
  induction d with
  | zero => intro i hd; exact Ev.step (f := fun _ => some true) (fun k => by simp only [laws_eqEntryS.l0]; rw [if_neg (by omega)]) (Ev.now _)
  | succ d ih =>
    intro i hd
    refine Ev.step (fun k => ?_) (ih (i + 1) (by omega))
    simp only [laws_eqEntryS.l0, laws_eqEntry.f, laws_eqCmd.f, laws_eqTold.f]
    rw [if_pos (by omega), if_pos (by omega), if_pos (by omega), wrap_next (n := xs.length) (by omega) hm]
    simp
theorem eqEntryS_ev (xs : List S49) (hm : xs.length ≤ 9223372036854775807) : Ev (fun k => laws_eqEntryS.f k xs xs) true := by
  unfold laws_eqEntryS.f
  refine Ev.congr (fun k => by rw [if_pos rfl]) (by simpa using eqEntryS_l xs hm _ 0 rfl)
theorem szEntryS_f (l : List S54) (a : Int) (h0 : 0 ≤ a) (h1 : a ≤ 1048576) (hl : l.length ≤ 9223372036854775807) : laws_szEntryS.f l a = some (if (l.length : Int) ≤ a then a - (l.length : Int) else -1) := by
  have hw : wrap64 (a - (l.length : Int)) = a - (l.length : Int) := by unfold wrap64; omega
  unfold laws_szEntryS.f
  rw [hw]
  by_cases h : (l.length : Int) ≤ a
  · rw [if_neg (by omega), if_pos h]
  · rw [if_pos (by omega), if_neg h]

/-- A command of the laws' own as one of the program's. -/
def cv (x : S51) : S45 := ⟨x.f0, x.f1, x.f2, x.f3, x.f4⟩
def goodS (c : S45) : Bool := Mine.goodCmdB c.f0 c.f1 c.f2 c.f3 c.f4
theorem rdC_nat (l : List S45) (i : Nat) : rd_T45 l (i : Int) = l.getD i z45 := by unfold rd_T45; rw [Int.toNat_natCast]
theorem rdA_nat (l : List S51) (i : Nat) : rd_T51 l (i : Int) = l.getD i z51 := by unfold rd_T51; rw [Int.toNat_natCast]
theorem getD_set_self {α : Type} (xs : List α) (i : Nat) (v d : α) (h : i < xs.length) : (xs.set i v).getD i d = v := by simp [List.getD_eq_getElem?_getD, h]
theorem getD_map {α β : Type} (f : α → β) (xs : List α) (i : Nat) (a : α) (b : β) (h : i < xs.length) : (xs.map f).getD i b = f (xs.getD i a) := by
  simp [List.getD_eq_getElem?_getD, h]

def seqE (m : Int) (n : Nat) : List S49 := (List.range n).map fun (j : Nat) => ⟨m + 9 * (j : Int), m + 9 * (j : Int) + 1, ⟨m + 9 * (j : Int) + 2, m + 9 * (j : Int) + 3, m + 9 * (j : Int) + 4, m + 9 * (j : Int) + 5, m + 9 * (j : Int) + 6⟩, ⟨m + 9 * (j : Int) + 7, m + 9 * (j : Int) + 8⟩⟩
theorem seqE_length (m : Int) (n : Nat) : (seqE m n).length = n := by simp [seqE]
theorem seqE_get (m : Int) (n i : Nat) (d : S49) (h : i < n) : (seqE m n).getD i d = ⟨m + 9 * (i : Int), m + 9 * (i : Int) + 1, ⟨m + 9 * (i : Int) + 2, m + 9 * (i : Int) + 3, m + 9 * (i : Int) + 4, m + 9 * (i : Int) + 5, m + 9 * (i : Int) + 6⟩, ⟨m + 9 * (i : Int) + 7, m + 9 * (i : Int) + 8⟩⟩ := by
  simp [seqE, List.getD_eq_getElem?_getD, h]
theorem wraps9 {x : Int} (h0 : 0 ≤ x) (h1 : x + 9 ≤ 9223372036854775807) : wrap64 (x + 1) = x + 1 ∧ wrap64 (x + 1 + 1) = x + 2 ∧ wrap64 (x + 2 + 1) = x + 3 ∧ wrap64 (x + 3 + 1) = x + 4 ∧ wrap64 (x + 4 + 1) = x + 5 ∧ wrap64 (x + 5 + 1) = x + 6 ∧ wrap64 (x + 6 + 1) = x + 7 ∧ wrap64 (x + 7 + 1) = x + 8 ∧ wrap64 (x + 8 + 1) = x + 9 := by
  unfold wrap64
  refine ⟨?_, ?_, ?_, ?_, ?_, ?_, ?_, ?_, ?_⟩ <;> omega
theorem markEntryS_l (m : Int) (n : Nat) (hm : n ≤ 9223372036854775807) (h0 : 0 ≤ m) (h1 : m + 9 * n ≤ 9223372036854775807) : ∀ (d i : Nat) (acc : List S49), n - i = d → i ≤ n → acc.length = n → acc.take i = (seqE m n).take i →
    Ev (fun k => laws_markEntryS.l0 k acc (m + 9 * (i : Int)) (i : Int)) (m + 9 * (n : Int), seqE m n) := by
  intro d
  induction d with
  | zero =>
    intro i acc hd hi hl ht
    obtain rfl : i = n := by omega
    have e : acc = seqE m i := Mine.take_all (i := i) (by rw [seqE_length]; omega) (by rw [seqE_length]; exact hl) ht
    exact Ev.step (f := fun _ => some _) (fun k => by simp only [laws_markEntryS.l0]; rw [if_neg (by omega), e]) (Ev.now _)
  | succ d ih =>
    intro i acc hd hi hl ht
    have hs := Mine.take_set (seqE m n) acc z49 i (by rw [seqE_length]; omega) (by rw [seqE_length]; exact hl) ht
    rw [seqE_get m n i z49 (by omega)] at hs
    obtain ⟨w1, w2, w3, w4, w5, w6, w7, w8, w9⟩ := wraps9 (x := m + 9 * (i : Int)) (by omega) (by omega)
    have hg : ∀ x : S49, (acc.set i x).getD i z49 = x := fun x => getD_set_self _ _ _ _ (by omega)
    have e9 : m + 9 * (i : Int) + 9 = m + 9 * ((i + 1 : Nat) : Int) := by omega
    refine Ev.step (fun k => ?_) (ih (i + 1) _ (by omega) (by omega) (by rw [List.length_set]; exact hl) hs)
    simp only [laws_markEntryS.l0]
    rw [if_pos (by omega), if_pos (by omega)]
    simp only [Option.bind_some, rdE_nat, Int.toNat_natCast, List.set_set, hg, w1, w2, w3, w4, w5, w6, w7, w8, w9, e9, wrap_next (n := n) (show i < n by omega) hm]
theorem markEntryS_ev (l : List S49) (m : Int) (hm : l.length ≤ 9223372036854775807) (h0 : 0 ≤ m) (h1 : m + 9 * l.length ≤ 9223372036854775807) : Ev (fun k => laws_markEntryS.f k l m) (m + 9 * (l.length : Int), seqE m l.length) := by
  have := markEntryS_l m l.length hm h0 h1 _ 0 l rfl (by omega) rfl (by simp)
  unfold laws_markEntryS.f
  simpa using this
theorem heldEntryS_l (m : Int) (n : Nat) (hm : n ≤ 9223372036854775807) (h0 : 0 ≤ m) (h1 : m + 9 * n ≤ 9223372036854775807) : ∀ (d i : Nat), n - i = d → i ≤ n →
    Ev (fun k => laws_heldEntryS.l0 k (seqE m n) (m + 9 * (i : Int)) (i : Int)) (m + 9 * (n : Int)) := by
  intro d
  induction d with
  | zero =>
    intro i hd hi
    obtain rfl : i = n := by omega
    exact Ev.step (f := fun _ => some _) (fun k => by simp only [laws_heldEntryS.l0]; rw [if_neg (by rw [seqE_length]; omega)]) (Ev.now _)
  | succ d ih =>
    intro i hd hi
    obtain ⟨w1, w2, w3, w4, w5, w6, w7, w8, w9⟩ := wraps9 (x := m + 9 * (i : Int)) (by omega) (by omega)
    have e9 : m + 9 * (i : Int) + 9 = m + 9 * ((i + 1 : Nat) : Int) := by omega
    refine Ev.step (fun k => ?_) (ih (i + 1) (by omega) (by omega))
    simp only [laws_heldEntryS.l0]
    rw [if_pos (by rw [seqE_length]; omega), if_pos (by omega)]
    simp only [rdE_nat, seqE_get m n i _ (show i < n by omega), w1, w2, w3, w4, w5, w6, w7, w8, w9, if_true, e9, wrap_next (n := n) (show i < n by omega) hm]
theorem heldEntryS_ev (m : Int) (n : Nat) (hm : n ≤ 9223372036854775807) (h0 : 0 ≤ m) (h1 : m + 9 * n ≤ 9223372036854775807) : Ev (fun k => laws_heldEntryS.f k (seqE m n) m) (m + 9 * (n : Int)) := by
  have := heldEntryS_l m n hm h0 h1 _ 0 rfl (by omega)
  unfold laws_heldEntryS.f
  simpa using this

/-- A number put to its place among rising ones, once. -/
def putL : List Int → Int → List Int
  | [], n => [n]
  | x :: xs, n => if x < n then x :: putL xs n else if x = n then x :: xs else n :: x :: xs
theorem putL_length (n : Int) : ∀ l : List Int, (putL l n).length ≤ l.length + 1
  | [] => by simp [putL]
  | x :: xs => by
    have := putL_length n xs
    unfold putL
    split
    · simp; omega
    · split <;> simp

/-- The accounts that a good command touches (its kind, from, to). -/
def touchL (k f t : Int) : List Int := if k = 1 then putL [f] t else if k = 2 then [f] else []
theorem touchL_length (k f t : Int) : (touchL k f t).length ≤ 2 := by
  unfold touchL
  split
  · exact putL_length t [f]
  · split <;> simp
theorem good_parts {k i f t a : Int} (h : Mine.goodCmdB k i f t a = true) : (k = 0 ∧ i = 0 ∧ f = 0 ∧ t = 0 ∧ a = 0) ∨ (k = 1 ∧ (1 ≤ i ∧ i ≤ 999) ∧ (0 ≤ f ∧ f ≤ 3) ∧ (0 ≤ t ∧ t ≤ 3) ∧ f ≠ t ∧ (1 ≤ a ∧ a ≤ 1000)) ∨ (k = 2 ∧ (1 ≤ i ∧ i ≤ 999) ∧ (0 ≤ f ∧ f ≤ 3) ∧ t = 0 ∧ a = 0) := by
  unfold Mine.goodCmdB at h
  by_cases h0 : k = 0
  · rw [if_pos h0] at h; simp at h; exact .inl ⟨h0, h.1, h.2.1, h.2.2.1, h.2.2.2⟩
  · rw [if_neg h0] at h
    by_cases h1 : k = 1
    · rw [if_pos h1] at h
      simp only [Bool.and_eq_true, Mine.inB_iff, Bool.not_eq_true', beq_eq_false_iff_ne] at h
      exact .inr (.inl ⟨h1, h.1, h.2.1, h.2.2.1, h.2.2.2.1, h.2.2.2.2⟩)
    · rw [if_neg h1] at h
      by_cases h2 : k = 2
      · rw [if_pos h2] at h
        simp only [Bool.and_eq_true, Mine.inB_iff, beq_iff_eq] at h
        exact .inr (.inr ⟨h2, h.1, h.2.1, h.2.2.1, h.2.2.2⟩)
      · rw [if_neg h2] at h; simp at h

theorem l1In_f (a b c : Int) : spec_l1In.f a b c = some (Mine.inB b c a) := by
  unfold spec_l1In.f Mine.inB
  by_cases h : a ≥ b
  · rw [if_pos h]; simp [show b ≤ a from h]
  · rw [if_neg h]; simp [show ¬ b ≤ a from h]

theorem l2Account_f (a : Int) : spec_l2Account.f a = some (Mine.inB 0 3 a) := by unfold spec_l2Account.f; rw [l1In_f, Option.bind_some]

theorem specGoodCmd (k i f t a : Int) : spec_GoodCmd.f k i f t a = some (Mine.goodCmdB k i f t a) := by
  unfold spec_GoodCmd.f spec_l2Code.f Mine.goodCmdB
  simp only [l1In_f, l2Account_f, Option.bind_some]
  by_cases h0 : k = 0
  · simp [h0]
  · rw [if_neg h0, if_neg h0]
    by_cases h1 : k = 1
    · rw [if_pos h1, if_pos h1, if_pos h1]
      by_cases hft : f = t
      · cases Mine.inB 1 999 i <;> cases Mine.inB 0 3 f <;> cases Mine.inB 0 3 t <;> simp [hft]
      · cases Mine.inB 1 999 i <;> cases Mine.inB 0 3 f <;> cases Mine.inB 0 3 t <;> cases Mine.inB 1 1000 a <;> simp [hft]
    · rw [if_neg h1, if_neg h1, if_neg h1]
      by_cases h2 : k = 2
      · rw [if_pos h2, if_pos h2]
        by_cases ht : t = 0
        · cases Mine.inB 1 999 i <;> cases Mine.inB 0 3 f <;> simp [ht]
        · cases Mine.inB 1 999 i <;> cases Mine.inB 0 3 f <;> simp [ht]
      · rw [if_neg h2, if_neg h2]

theorem within_f (a b c : Int) : impl_within.f a b c = some (Mine.inB b c a) := by
  unfold impl_within.f Mine.inB
  by_cases h : b ≤ a
  · rw [if_pos h]; simp [h]
  · rw [if_neg h]; simp [h]

theorem implGoodCmd (k i f t a : Int) : impl_GoodCmd.f k i f t a = some (Mine.goodCmdB k i f t a) := by
  unfold impl_GoodCmd.f impl_isAccount.f Mine.goodCmdB
  simp only [within_f, Option.bind_some]
  by_cases h0 : k = 0
  · simp [h0]
  · rw [if_neg h0, if_neg h0]
    by_cases h1 : k = 1
    · rw [if_pos h1, if_pos h1]
      by_cases hft : f = t
      · cases Mine.inB 1 999 i <;> cases Mine.inB 0 3 f <;> cases Mine.inB 0 3 t <;> simp [hft]
      · cases Mine.inB 1 999 i <;> cases Mine.inB 0 3 f <;> cases Mine.inB 0 3 t <;> cases Mine.inB 1 1000 a <;> simp [hft]
    · rw [if_neg h1, if_neg h1]
      by_cases h2 : k = 2
      · rw [if_pos h2, if_pos h2]
        by_cases ht : t = 0
        · cases Mine.inB 1 999 i <;> cases Mine.inB 0 3 f <;> simp [ht]
        · cases Mine.inB 1 999 i <;> cases Mine.inB 0 3 f <;> simp [ht]
      · rw [if_neg h2, if_neg h2]

theorem l1Put_l (l : List Int) (n : Int) (hm : l.length < 17592186044400) : ∀ (d i : Nat), l.length - i = d → i ≤ l.length → Ev (fun k => spec_l1Put.l0 k l n (i : Int)) (l.take i ++ putL (l.drop i) n) := by
  intro d
  induction d with
  | zero =>
    intro i hd hi
    obtain rfl : i = l.length := by omega
    refine Ev.step (f := fun _ => some _) (fun k => ?_) (Ev.now _)
    simp only [spec_l1Put.l0]
    rw [if_neg (by omega)]
    simp only [Option.bind_some, Int.toNat_natCast, List.drop_length, List.take_length, putL, List.append_nil]
    rw [if_pos (by omega), if_pos (by omega), if_pos (by simp; omega), if_pos (by simp; omega), if_pos (by simp; omega)]
    simp
  | succ d ih =>
    intro i hd hi
    have hlt : i < l.length := by omega
    rw [Mine.drop_at l 0 i hlt, putL]
    by_cases h1 : l.getD i 0 < n
    · rw [if_pos h1]
      have := ih (i + 1) (by omega) (by omega)
      have e : l.take (i + 1) = l.take i ++ [l.getD i 0] := by
        rw [List.take_add_one, List.getD_eq_getElem?_getD, List.getElem?_eq_getElem hlt]; rfl
      rw [e, List.append_assoc] at this
      refine Ev.step (fun k => ?_) this
      simp only [spec_l1Put.l0]
      rw [if_pos (by omega), if_pos (by omega), rd_nat, if_pos h1, wrap_next hlt (by omega)]
    · rw [if_neg h1]
      by_cases h2 : l.getD i 0 = n
      · rw [if_pos h2]
        refine Ev.step (f := fun _ => some _) (fun k => ?_) (Ev.now _)
        simp only [spec_l1Put.l0]
        rw [if_pos (by omega), if_pos (by omega), rd_nat, if_neg h1, if_pos h2, ← Mine.drop_at l 0 i hlt, List.take_append_drop]
      · rw [if_neg h2]
        refine Ev.step (f := fun _ => some _) (fun k => ?_) (Ev.now _)
        have ht : (l.take i).length = i := by rw [List.length_take]; omega
        have hdr : (l.drop i).length = l.length - i := by rw [List.length_drop]
        simp only [spec_l1Put.l0]
        rw [if_pos (by omega), if_pos (by omega), rd_nat, if_neg h1, if_neg h2]
        simp only [Option.bind_some, Int.toNat_natCast, List.nil_append]
        rw [if_pos (by omega), if_pos (by simp only [List.length_nil]; omega), if_pos (by omega), if_pos (by rw [List.length_append]; simp only [List.length_cons, List.length_nil]; omega), ← Mine.drop_at l 0 i hlt]
        simp
theorem l1Put_ev (l : List Int) (n : Int) (hm : l.length < 17592186044400) : Ev (fun k => spec_l1Put.f k l n) (putL l n) := by
  have := l1Put_l l n hm _ 0 rfl (by omega)
  simpa [spec_l1Put.f] using this

theorem specTouches_ev (k0 i f t a : Int) : Ev (fun k => spec_l2Touches.f k k0 i f t a) (touchL k0 f t) := by
  unfold spec_l2Touches.f touchL
  by_cases h1 : k0 = 1
  · simp only [if_pos h1]; exact Ev.map (l1Put_ev [f] t (by simp)) (fun t => t)
  · simp only [if_neg h1]
    by_cases h2 : k0 = 2
    · simp only [if_pos h2]; exact Ev.now _
    · simp only [if_neg h2]; exact Ev.now _

theorem implTouches_f (k0 i f t a : Int) (h : Mine.goodCmdB k0 i f t a = true) : impl_touches.f k0 i f t a = some (touchL k0 f t) := by
  unfold impl_touches.f touchL
  rcases good_parts h with ⟨rfl, _⟩ | ⟨rfl, _, _, _, hne, _⟩ | ⟨rfl, _⟩
  · simp
  · simp only [if_true, putL]
    by_cases hlt : f < t
    · rw [if_pos hlt]; simp only [Option.some.injEq, List.cons.injEq, and_true]; unfold mn mx; constructor <;> omega
    · rw [if_neg hlt, if_neg hne]; simp only [Option.some.injEq, List.cons.injEq, and_true]; unfold mn mx; constructor <;> omega
  · simp

theorem l1Has_ev (l : List Int) (n : Int) (hm : l.length ≤ 9223372036854775807) : Ev (fun k => spec_l1Has.f k l n) (Mine.anyP (fun x => x == n) l) := by
  have h := loop_any (fun k => spec_l1Has.l0 k n l (l.length : Int)) l 0 (fun x => x == n) true false (by
    intro i hlt
    have body : ∀ k, spec_l1Has.l0 (k + 1) n l (l.length : Int) (i : Int) = if l.getD i 0 = n then some true else spec_l1Has.l0 k n l (l.length : Int) ((i + 1 : Nat) : Int) := by
      intro k
      simp only [spec_l1Has.l0]
      rw [if_pos (by omega), if_pos (by omega), if_pos (by omega), rd_nat, wrap_next hlt hm]
    refine ⟨fun hp => Ev.step (f := fun _ => some true) (fun k => by rw [body, if_pos (by simpa using hp)]) (Ev.now _), fun hp r hr => Ev.step (fun k => by rw [body, if_neg (by simpa using hp)]) hr⟩) (fun _ => Ev.step (f := fun _ => some false) (fun k => by simp only [spec_l1Has.l0]; rw [if_neg (by omega)]) (Ev.now _))
  have e : (if Mine.anyP (fun x => x == n) l = true then true else false) = Mine.anyP (fun x => x == n) l := by cases Mine.anyP (fun x => x == n) l <;> rfl
  rw [e] at h
  exact h

/-- Where a number stands first. -/
def idxI (n : Int) : List Int → Int → Int
  | [], _ => -1
  | x :: xs, i => if n = x then i else idxI n xs (i + 1)
theorem index_l (xs : List Int) (n : Int) (hm : xs.length ≤ 9223372036854775807) : ∀ (d i : Nat), xs.length - i = d → Ev (fun k => slices_Index_int_int.l0 k xs n (xs.length : Int) (i : Int)) (idxI n (xs.drop i) i) := by
  intro d
  induction d with
  | zero => intro i hd; rw [List.drop_eq_nil_of_le (by omega)]; exact Ev.step (f := fun _ => some (-1)) (fun k => by simp only [slices_Index_int_int.l0]; rw [if_neg (by omega)]) (Ev.now _)
  | succ d ih =>
    intro i hd
    have hlt : i < xs.length := by omega
    rw [Mine.drop_at xs 0 i hlt, idxI]
    have body : ∀ k, slices_Index_int_int.l0 (k + 1) xs n (xs.length : Int) (i : Int) = if n = xs.getD i 0 then some (i : Int) else slices_Index_int_int.l0 k xs n (xs.length : Int) ((i + 1 : Nat) : Int) := by
      intro k
      simp only [slices_Index_int_int.l0]
      rw [if_pos (by omega), if_pos (by omega), if_pos (by omega), rd_nat, wrap_next hlt hm]
    by_cases h : n = xs.getD i 0
    · rw [if_pos h]; exact Ev.step (f := fun _ => some (i : Int)) (fun k => by rw [body, if_pos h]) (Ev.now _)
    · rw [if_neg h]; exact Ev.step (fun k => by rw [body, if_neg h]) (by simpa using ih (i + 1) (by omega))
theorem idxI_any (n : Int) : ∀ (xs : List Int) (i : Int), 0 ≤ i → decide (idxI n xs i ≥ 0) = Mine.anyP (fun x => x == n) xs
  | [], i, _ => by simp [idxI, Mine.anyP]
  | x :: xs, i, hi => by
    rw [idxI, Mine.anyP_cons]
    by_cases h : n = x
    · rw [if_pos h]; simp [h, hi]
    · rw [if_neg h, idxI_any n xs (i + 1) (by omega)]; simp [show ¬ x = n from fun e => h e.symm]
theorem index_ev (xs : List Int) (n : Int) (hm : xs.length ≤ 9223372036854775807) : Ev (fun k => slices_Index_int_int.f k xs n) (idxI n xs 0) := by
  simpa [slices_Index_int_int.f] using index_l xs n hm _ 0 rfl

theorem contains_ev (xs : List Int) (n : Int) (hm : xs.length ≤ 9223372036854775807) : Ev (fun k => slices_Contains_int_int.f k xs n) (Mine.anyP (fun x => x == n) xs) := by
  have h := Ev.map (index_ev xs n hm) (fun t => decide (t ≥ 0))
  rw [idxI_any n xs 0 (Int.le_refl 0)] at h
  exact h

def goodE (e : S49) : Bool := Mine.goodCmdB e.f2.f0 e.f2.f1 e.f2.f2 e.f2.f3 e.f2.f4
def hitE (a : Int) (e : S49) : Bool := Mine.anyP (fun x => x == a) (touchL e.f2.f0 e.f2.f2 e.f2.f3)
def accR (l : List S49) (a : Int) : List S49 × Bool :=
  if 60 < l.length ∨ Mine.inB 0 3 a = false then ([], false) else if Mine.anyP (fun e => !goodE e) l = true then ([], false) else (l.filter (hitE a), true)
theorem accR_length (l : List S49) (a : Int) : (accR l a).1.length ≤ l.length := by
  unfold accR
  split
  · simp
  · split
    · simp
    · exact List.length_filter_le _ _
def stepE (a : Int) (x : S49) (s : List S49) : Sum (List S49) (List S49 × Bool) := if goodE x = true then .inl (if hitE a x = true then s ++ [x] else s) else .inr ([], false)
theorem scan_acc (a : Int) : ∀ (l s : List S49), scan (stepE a) (fun s => (s, true)) l s = if Mine.anyP (fun e => !goodE e) l = true then ([], false) else (s ++ l.filter (hitE a), true)
  | [], s => by simp [scan, Mine.anyP]
  | x :: l, s => by
    rw [scan, Mine.anyP_cons, show stepE a x s = (if goodE x = true then .inl (if hitE a x = true then s ++ [x] else s) else .inr ([], false)) from rfl]
    cases hg : goodE x with
    | false => simp
    | true =>
      simp only [if_true, Bool.not_true, Bool.false_or]
      rw [scan_acc a l]
      cases hh : hitE a x with
      | false => simp [hh]
      | true => simp [hh]
theorem specAcc_ev (l : List S49) (a : Int) : Ev (fun k => spec_AccountOf.f k l a) (accR l a) := by
  have hj : Ev (fun k => spec_AccountOf.j0 k l a true) ([], false) := Ev.step (f := fun _ => some _) (fun k => by simp only [spec_AccountOf.j0]; rw [if_pos trivial]) (Ev.now _)
  unfold spec_AccountOf.f accR
  by_cases h1 : (l.length : Int) > 60
  · simp only [if_pos h1]; rw [if_pos (.inl (by omega))]; exact hj
  · simp only [if_neg h1]
    rw [l2Account_f]
    simp only [Option.bind_some]
    cases ha : Mine.inB 0 3 a with
    | false => rw [if_pos (.inr rfl)]; exact hj
    | true =>
      rw [if_neg (by simp; omega)]
      refine Ev.step (fun k => by simp only [spec_AccountOf.j0]; rw [if_neg (by simp)]) ?_
      have hsc := loop_scan (fun k s i => spec_AccountOf.l0 k a s l (l.length : Int) i) l z49 (stepE a) (fun s => (s, true)) (fun i s => s.length ≤ i) (fun i s hi hP => ?_) (fun s hP => ?_) [] (by simp)
      · rw [scan_acc] at hsc
        simpa using hsc
      · have body : ∀ k, spec_AccountOf.l0 (k + 1) a s l (l.length : Int) (i : Int) = if goodE (l.getD i z49) = true then ((spec_l2Touches.f k (l.getD i z49).f2.f0 (l.getD i z49).f2.f1 (l.getD i z49).f2.f2 (l.getD i z49).f2.f3 (l.getD i z49).f2.f4).bind fun t => (spec_l1Has.f k t a).bind fun b => if b = true then spec_AccountOf.l0 k a (s ++ [l.getD i z49]) l (l.length : Int) ((i + 1 : Nat) : Int) else spec_AccountOf.l0 k a s l (l.length : Int) ((i + 1 : Nat) : Int)) else some ([], false) := by
          intro k
          simp only [spec_AccountOf.l0]
          rw [if_pos (by omega), if_pos (by omega), if_pos (by omega), specGoodCmd, Option.bind_some, rdE_nat, wrap_next hi (by omega)]
          simp only [if_pos (show s.length < 1954687338268 by omega)]
          rfl
        constructor
        · intro s' hs'
          unfold stepE at hs'
          cases hg : goodE (l.getD i z49) with
          | false => rw [hg] at hs'; simp at hs'
          | true =>
            rw [hg, if_pos rfl, Sum.inl.injEq] at hs'
            subst hs'
            constructor
            · split
              · rw [List.length_append]; simp; omega
              · omega
            · intro r hr
              refine Ev.step (fun k => by rw [body, if_pos hg]) (Ev.bind (specTouches_ev _ _ _ _ _) (Ev.bind (l1Has_ev (touchL (l.getD i z49).f2.f0 (l.getD i z49).f2.f2 (l.getD i z49).f2.f3) a (by have := touchL_length (l.getD i z49).f2.f0 (l.getD i z49).f2.f2 (l.getD i z49).f2.f3; omega)) ?_))
              show Ev (fun k => if hitE a (l.getD i z49) = true then _ else _) r
              cases hh : hitE a (l.getD i z49) with
              | false => rw [hh] at hr; simpa using hr
              | true => rw [hh] at hr; simpa using hr
        · intro r hr
          unfold stepE at hr
          cases hg : goodE (l.getD i z49) with
          | true => rw [hg] at hr; simp at hr
          | false =>
            rw [hg, if_neg (by simp), Sum.inr.injEq] at hr
            subst hr
            exact Ev.step (f := fun _ => some _) (fun k => by rw [body, if_neg (by rw [hg]; simp)]) (Ev.now _)
      · exact Ev.step (f := fun _ => some (s, true)) (fun k => by simp only [spec_AccountOf.l0]; rw [if_neg (by omega)]) (Ev.now _)
theorem delO_ev {α : Type} (p : Nat → α → Option Bool) : ∀ (xs : List α) (q : α → Bool), (∀ x ∈ xs, Ev (fun k => p k x) (q x)) → Ev (fun k => Mine.delO (p k) xs) (xs.filter fun x => !q x)
  | [], q, _ => Ev.const rfl
  | x :: xs, q, h => by
    simp only [Mine.delO]
    refine Ev.bind (h x (by simp)) (Ev.bind (delO_ev p xs q (fun y hy => h y (by simp [hy]))) ?_)
    cases hq : q x with
    | true => simpa [hq] using Ev.now (xs.filter fun x => !q x)
    | false => simpa [hq] using Ev.now (x :: xs.filter fun x => !q x)
theorem implGoodEntries_f (l : List S49) : impl_goodEntries.f l = some (decide (l.length ≤ 60) && !Mine.anyP (fun e => !goodE e) l) := by
  unfold impl_goodEntries.f impl_goodEntries_1_in_c.f
  rw [Mine.anyO_total (q := fun c => !goodE c) (fun x _ => by unfold impl_goodEntries_1.f; rw [implGoodCmd, Option.bind_some]; rfl), Option.bind_some]
  by_cases h : (l.length : Int) ≤ 60
  · rw [if_pos h, decide_eq_true (show l.length ≤ 60 by omega)]
    cases Mine.anyP (fun c => !goodE c) l <;> simp
  · rw [if_neg h, decide_eq_false (show ¬ l.length ≤ 60 by omega)]
    cases Mine.anyP (fun c => !goodE c) l <;> simp
theorem implAcc_ev (l : List S49) (a : Int) : Ev (fun k => impl_AccountOf.f k l a) (accR l a) := by
  have hacc : impl_isAccount.f a = some (Mine.inB 0 3 a) := by unfold impl_isAccount.f; rw [within_f, Option.bind_some]
  unfold impl_AccountOf.f accR
  rw [implGoodEntries_f]
  simp only [Option.bind_some, hacc]
  by_cases h1 : 60 < l.length
  · rw [if_pos (.inl h1), decide_eq_false (by omega)]
    simpa using Ev.now _
  · rw [decide_eq_true (show l.length ≤ 60 by omega), Bool.true_and]
    cases hb : Mine.anyP (fun e => !goodE e) l with
    | true =>
      simp only [Bool.not_true, Bool.false_eq_true, if_false, if_true]
      split <;> exact Ev.now _
    | false =>
      simp only [Bool.not_false, if_true]
      cases ha : Mine.inB 0 3 a with
      | false => simpa using Ev.now _
      | true =>
        rw [if_neg (by simp; omega)]
        have hcl : impl_Entry_30.f l = some l := by unfold impl_Entry_30.f; rw [if_pos (by omega)]
        simp only [if_true, hcl, Option.bind_some, Bool.false_eq_true, if_false]
        have hd := delO_ev (fun k (x : S49) => impl_AccountOf_1.f k x.f0 x.f1 x.f2.f0 x.f2.f1 x.f2.f2 x.f2.f3 x.f2.f4 x.f3.f0 x.f3.f1 a) l (fun x => !hitE a x) (fun x hx => ?_)
        · refine Ev.map (a := l.filter (hitE a)) ?_ (fun r => (r, true))
          simpa using hd
        · have hgx : goodE x = true := by have := Mine.anyP_false.1 hb x hx; simpa using this
          show Ev (fun k => impl_AccountOf_1.f k x.f0 x.f1 x.f2.f0 x.f2.f1 x.f2.f2 x.f2.f3 x.f2.f4 x.f3.f0 x.f3.f1 a) (!hitE a x)
          unfold impl_AccountOf_1.f
          rw [implTouches_f _ _ _ _ _ hgx]
          simp only [Option.bind_some]
          exact Ev.map (contains_ev (touchL x.f2.f0 x.f2.f2 x.f2.f3) a (by have := touchL_length x.f2.f0 x.f2.f2 x.f2.f3; omega)) (fun t => !t)
theorem FnExactAccountOf : laws_FnExactAccountOf.Pure := by
  intro l a ⟨hl, _⟩ _
  unfold laws_FnExactAccountOf.Facts
  refine ⟨_, szEntryS_f l 1048576 (by omega) (by omega) hl, ?_⟩
  by_cases h : (l.length : Int) ≤ 1048576
  · rw [if_pos h]
    have e1 : (l.map cvE).length = l.length := List.length_map _
    have e2 := accR_length (l.map cvE) a
    exact .inr ⟨by omega, l.map cvE, Ev.rounds (toEntryS_ev l (by omega)), (accR (l.map cvE) a).1, (accR (l.map cvE) a).2, Ev.rounds (specAcc_ev _ _), Ev.rounds (implAcc_ev _ _), Ev.rounds (eqEntryS_ev _ (by omega)), Ev.rounds (eqEntryS_ev _ (by omega)), _, _, (by obtain ⟨K, hK⟩ := markEntryS_ev (l.map cvE) 1 (by omega) (by omega) (by omega); exact ⟨K, by omega, hK K (Nat.le_refl _)⟩), _, _, (by obtain ⟨K, hK⟩ := markEntryS_ev (accR (l.map cvE) a).1 1 (by omega) (by omega) (by omega); exact ⟨K, by omega, hK K (Nat.le_refl _)⟩), Ev.rounds (heldEntryS_ev 1 _ (by omega) (by omega) (by omega)), trivial⟩
  · rw [if_neg h]
    exact .inl (by omega)

end Go.Proofs.Ytbhdhcflkamieaa.Pure
