/- The law FnExactTellsSame holds, for every input. -/
import Derived.Test.YtbhhgeecieeefaaQFnExactTellsSamex12
import Derived.Test.YtbhhgeecieeefaaMine
namespace Go.Proofs.Ytbhhgeecieeefaa.Pure
open Go.RowKit Go.Proofs.Ytbhhgeecieeefaa.QFnExactTellsSame Go.Proofs.YtbhhgeecieeefaaW.PrintWords Go.Proofs.YtbhhgeecieeefaaW.PrintLast Go.Proofs.YtbhhgeecieeefaaW.PrintMore
set_option linter.unusedVariables false
set_option linter.unusedSimpArgs false

theorem wrap_next {i : Nat} {n : Nat} (h : i < n) (hn : n ≤ 9223372036854775807) : wrap64 ((i : Int) + 1) = ((i + 1 : Nat) : Int) := by
  unfold wrap64
  omega
theorem rd_nat (l : List Int) (i : Nat) : rd l (i : Int) = l.getD i 0 := by unfold rd; rw [Int.toNat_natCast]
theorem wrap_small {x : Int} (h0 : -9223372036854775808 ≤ x) (h1 : x ≤ 9223372036854775807) : wrap64 x = x := by unfold wrap64; omega
theorem Ev.const {α : Type} {o : Option α} {a : α} (h : o = some a) : Ev (fun _ => o) a := ⟨0, fun _ _ => h⟩
theorem Ev.map {α β : Type} {g : Nat → Option α} {a : α} (h : Ev g a) (f : α → β) : Ev (fun k => (g k).bind fun t => some (f t)) (f a) := by
  obtain ⟨K, h⟩ := h
  exact ⟨K, fun k hk => by show (g k).bind _ = _; rw [h k hk, Option.bind_some]⟩
/-- A loop over a list's elements that ends at the first hit. -/
theorem loop_any {α ρ : Type} (F : Nat → Int → Option ρ) (xs : List α) (d : α) (p : α → Bool) (hit miss : ρ)
    (hs : ∀ i, i < xs.length → (p (xs.getD i d) = true → Ev (fun k => F k (i : Int)) hit) ∧ (p (xs.getD i d) = false → ∀ r, Ev (fun k => F k ((i + 1 : Nat) : Int)) r → Ev (fun k => F k (i : Int)) r))
    (he : Mine.anyP p xs = false → Ev (fun k => F k (xs.length : Int)) miss) : Ev (fun k => F k 0) (if Mine.anyP p xs = true then hit else miss) := by
  have key : ∀ (n i : Nat), xs.length - i = n → i ≤ xs.length → Mine.anyP p (xs.take i) = false → Ev (fun k => F k (i : Int)) (if Mine.anyP p (xs.drop i) = true then hit else miss) := by
    intro n
    induction n with
    | zero =>
      intro i hn hi hb
      obtain rfl : i = xs.length := by omega
      rw [List.drop_eq_nil_of_le (Nat.le_refl _)]
      rw [List.take_of_length_le (Nat.le_refl _)] at hb
      simpa [Mine.anyP] using he hb
    | succ n ih =>
      intro i hn hi hb
      rw [Mine.drop_at xs d i (by omega), Mine.anyP_cons]
      cases hp : p (xs.getD i d) with
      | true => simpa using (hs i (by omega)).1 hp
      | false =>
        have hb' : Mine.anyP p (xs.take (i + 1)) = false := by
          have e : xs.take (i + 1) = xs.take i ++ [xs.getD i d] := by
            rw [List.take_add_one, List.getD_eq_getElem?_getD, List.getElem?_eq_getElem (show i < xs.length by omega)]; rfl
          rw [e]
          unfold Mine.anyP at hb ⊢
          rw [List.any_append, hb, List.any_cons, hp]
          rfl
        simpa using (hs i (by omega)).2 hp _ (ih (i + 1) (by omega) (by omega) hb')
  simpa using key xs.length 0 (by omega) (by omega) (by simp [Mine.anyP])
/-- What a loop over a list's elements comes to: a state that goes on, or a result. -/
def scan {σ α ρ : Type} (step : α → σ → Sum σ ρ) (fin : σ → ρ) : List α → σ → ρ
  | [], s => fin s
  | x :: xs, s => match step x s with
    | .inl s' => scan step fin xs s'
    | .inr r => r
theorem loop_scan {σ α ρ : Type} (F : Nat → σ → Int → Option ρ) (xs : List α) (d : α) (step : α → σ → Sum σ ρ) (fin : σ → ρ) (P : Nat → σ → Prop)
    (hs : ∀ (i : Nat) (s : σ), i < xs.length → P i s → (∀ s', step (xs.getD i d) s = .inl s' → P (i + 1) s' ∧ ∀ r, Ev (fun k => F k s' ((i + 1 : Nat) : Int)) r → Ev (fun k => F k s (i : Int)) r) ∧ (∀ r, step (xs.getD i d) s = .inr r → Ev (fun k => F k s (i : Int)) r))
    (he : ∀ s, P xs.length s → Ev (fun k => F k s (xs.length : Int)) (fin s)) (s : σ) (h0 : P 0 s) : Ev (fun k => F k s 0) (scan step fin xs s) := by
  have key : ∀ (n i : Nat) (s : σ), xs.length - i = n → i ≤ xs.length → P i s → Ev (fun k => F k s (i : Int)) (scan step fin (xs.drop i) s) := by
    intro n
    induction n with
    | zero =>
      intro i s hn hi hp
      obtain rfl : i = xs.length := by omega
      rw [List.drop_eq_nil_of_le (Nat.le_refl _)]
      exact he s hp
    | succ n ih =>
      intro i s hn hi hp
      rw [Mine.drop_at xs d i (by omega), scan]
      cases hst : step (xs.getD i d) s with
      | inl s' => exact ((hs i s (by omega) hp).1 s' hst).2 _ (ih (i + 1) s' (by omega) (by omega) ((hs i s (by omega) hp).1 s' hst).1)
      | inr r => exact (hs i s (by omega) hp).2 r hst
  simpa using key xs.length 0 s (by omega) (by omega) h0

/-- A command of the laws' own as one of the program's. -/
def cv (x : S23) : S27 := ⟨x.f0, x.f1, x.f2, x.f3, x.f4⟩
def goodS (c : S27) : Bool := Mine.goodCmdB c.f0 c.f1 c.f2 c.f3 c.f4
theorem rdC_nat (l : List S27) (i : Nat) : rd_T27 l (i : Int) = l.getD i z27 := by unfold rd_T27; rw [Int.toNat_natCast]
theorem rdA_nat (l : List S23) (i : Nat) : rd_T23 l (i : Int) = l.getD i z23 := by unfold rd_T23; rw [Int.toNat_natCast]
theorem getD_set_self {α : Type} (xs : List α) (i : Nat) (v d : α) (h : i < xs.length) : (xs.set i v).getD i d = v := by simp [List.getD_eq_getElem?_getD, h]
theorem getD_map {α β : Type} (f : α → β) (xs : List α) (i : Nat) (a : α) (b : β) (h : i < xs.length) : (xs.map f).getD i b = f (xs.getD i a) := by
  simp [List.getD_eq_getElem?_getD, h]

theorem toCmdS_l (xs : List S23) (hm : xs.length ≤ 9223372036854775807) : ∀ (d i : Nat) (acc : List S27), xs.length - i = d → i ≤ xs.length → acc.length = (xs.map cv).length → acc.take i = (xs.map cv).take i → Ev (fun k => laws_toCmdS.l0 k xs acc (i : Int)) (xs.map cv) := by
  intro d
  induction d with
  | zero =>
    intro i acc hd hi hl ht
    have e : acc = xs.map cv := Mine.take_all (i := i) (by rw [List.length_map]; omega) hl ht
    exact Ev.step (f := fun _ => some (xs.map cv)) (fun k => by simp only [laws_toCmdS.l0]; rw [if_neg (by omega), e]) (Ev.now _)
  | succ d ih =>
    intro i acc hd hi hl ht
    have hlt : i < xs.length := by omega
    have hs := Mine.take_set (xs.map cv) acc z27 i (by rw [List.length_map]; exact hlt) hl ht
    rw [getD_map cv xs i z23 z27 hlt] at hs
    refine Ev.step (f := fun k => laws_toCmdS.l0 k xs (acc.set i (cv (xs.getD i z23))) ((i + 1 : Nat) : Int)) (fun k => ?_) (ih (i + 1) _ (by omega) (by omega) (by rw [List.length_set]; exact hl) hs)
    rw [List.length_map] at hl
    simp only [laws_toCmdS.l0, laws_toCmd.f, Option.bind_some]
    rw [if_pos (by omega), if_pos (by omega), if_pos (by omega), wrap_next (n := xs.length) hlt hm, rdA_nat, Int.toNat_natCast]
    rfl
theorem toCmdS_ev (xs : List S23) (hm : xs.length ≤ 1048576) : Ev (fun k => laws_toCmdS.f k xs) (xs.map cv) := by
  refine Ev.congr (f := fun k => laws_toCmdS.l0 k xs (List.replicate xs.length z27) ((0 : Nat) : Int)) (fun k => ?_) (toCmdS_l xs (by omega) _ 0 _ rfl (by omega) (by simp) (by simp))
  unfold laws_toCmdS.f
  rw [if_pos (by omega), if_pos (by omega)]
  simp

/-- A number put to its place among rising ones, once. -/
def putL : List Int → Int → List Int
  | [], n => [n]
  | x :: xs, n => if x < n then x :: putL xs n else if x = n then x :: xs else n :: x :: xs
theorem putL_length (n : Int) : ∀ l : List Int, (putL l n).length ≤ l.length + 1
  | [] => by simp [putL]
  | x :: xs => by
    have := putL_length n xs
    unfold putL
    split
    · simp; omega
    · split <;> simp

/-- The accounts that a good command touches (its kind, from, to). -/
def touchL (k f t : Int) : List Int := if k = 1 then putL [f] t else if k = 2 then [f] else []
theorem touchL_length (k f t : Int) : (touchL k f t).length ≤ 2 := by
  unfold touchL
  split
  · exact putL_length t [f]
  · split <;> simp
theorem good_parts {k i f t a : Int} (h : Mine.goodCmdB k i f t a = true) : (k = 0 ∧ i = 0 ∧ f = 0 ∧ t = 0 ∧ a = 0) ∨ (k = 1 ∧ (1 ≤ i ∧ i ≤ 999) ∧ (0 ≤ f ∧ f ≤ 3) ∧ (0 ≤ t ∧ t ≤ 3) ∧ f ≠ t ∧ (1 ≤ a ∧ a ≤ 1000)) ∨ (k = 2 ∧ (1 ≤ i ∧ i ≤ 999) ∧ (0 ≤ f ∧ f ≤ 3) ∧ t = 0 ∧ a = 0) := by
  unfold Mine.goodCmdB at h
  by_cases h0 : k = 0
  · rw [if_pos h0] at h; simp at h; exact .inl ⟨h0, h.1, h.2.1, h.2.2.1, h.2.2.2⟩
  · rw [if_neg h0] at h
    by_cases h1 : k = 1
    · rw [if_pos h1] at h
      simp only [Bool.and_eq_true, Mine.inB_iff, Bool.not_eq_true', beq_eq_false_iff_ne] at h
      exact .inr (.inl ⟨h1, h.1, h.2.1, h.2.2.1, h.2.2.2.1, h.2.2.2.2⟩)
    · rw [if_neg h1] at h
      by_cases h2 : k = 2
      · rw [if_pos h2] at h
        simp only [Bool.and_eq_true, Mine.inB_iff, beq_iff_eq] at h
        exact .inr (.inr ⟨h2, h.1, h.2.1, h.2.2.1, h.2.2.2⟩)
      · rw [if_neg h2] at h; simp at h

/-- What a good command does to sums: the sums behind it, its code, the sum that it tells. -/
def applyL (l : List Int) (k f t a : Int) : List Int × Int × Int :=
  if k = 2 then (l, 3, l.getD f.toNat 0)
  else if k = 1 then
    if l.getD f.toNat 0 < a then (l, 2, 0)
    else ((l.set f.toNat (wrap64 (l.getD f.toNat 0 - a))).set t.toNat (wrap64 ((l.set f.toNat (wrap64 (l.getD f.toNat 0 - a))).getD t.toNat 0 + a)), 1, 0)
  else (l, 0, 0)
theorem applyL_length (l : List Int) (k f t a : Int) : (applyL l k f t a).1.length = l.length := by
  unfold applyL
  split
  · rfl
  · split
    · split <;> simp
    · rfl

theorem l1Own_f (l : List Int) (h : l.length < 17592186044416) : spec_l1Own.f l = some l := by
  unfold spec_l1Own.f
  rw [Option.bind_some, if_pos (by simpa using h)]
  rfl

theorem specApply_f (l : List Int) (k i f t a : Int) (hl : l.length = 4) (h : Mine.goodCmdB k i f t a = true) : spec_l11Apply.f l k i f t a = some (applyL l k f t a) := by
  unfold spec_l11Apply.f applyL
  rw [l1Own_f l (by omega), Option.bind_some]
  rcases good_parts h with ⟨rfl, _, rfl, rfl, _⟩ | ⟨rfl, _, hf, ht, hne, _⟩ | ⟨rfl, _, hf, _⟩
  · simp
  · have hfl : f < (l.length : Int) := by omega
    have htl : t < (l.length : Int) := by omega
    simp only [if_neg (show ¬ (1 : Int) = 2 by omega), if_pos hf.1, if_pos hfl, if_pos (rfl : (1 : Int) = 1), if_pos ht.1, if_pos htl, Option.bind_some]
    unfold rd
    by_cases hlt : l.getD f.toNat 0 < a
    · simp only [if_pos hlt, if_true]
    · simp only [if_neg hlt, if_true]
  · have hfl : f < (l.length : Int) := by omega
    simp only [if_pos (rfl : (2 : Int) = 2), if_pos hf.1, if_pos hfl, if_true]; rfl

theorem specNewSums_ev : Ev (fun k => spec_NewSums.f k) [100, 100, 100, 100] := Ev.of (fun k => spec_NewSums.mono k) (k := 100) (by decide +kernel)

theorem l1In_f (a b c : Int) : spec_l1In.f a b c = some (Mine.inB b c a) := by
  unfold spec_l1In.f Mine.inB
  by_cases h : a ≥ b
  · rw [if_pos h]; simp [show b ≤ a from h]
  · rw [if_neg h]; simp [show ¬ b ≤ a from h]

theorem l2Account_f (a : Int) : spec_l2Account.f a = some (Mine.inB 0 3 a) := by unfold spec_l2Account.f; rw [l1In_f, Option.bind_some]

theorem specGoodCmd (k i f t a : Int) : spec_GoodCmd.f k i f t a = some (Mine.goodCmdB k i f t a) := by
  unfold spec_GoodCmd.f spec_l2Code.f Mine.goodCmdB
  simp only [l1In_f, l2Account_f, Option.bind_some]
  by_cases h0 : k = 0
  · simp [h0]
  · rw [if_neg h0, if_neg h0]
    by_cases h1 : k = 1
    · rw [if_pos h1, if_pos h1, if_pos h1]
      by_cases hft : f = t
      · cases Mine.inB 1 999 i <;> cases Mine.inB 0 3 f <;> cases Mine.inB 0 3 t <;> simp [hft]
      · cases Mine.inB 1 999 i <;> cases Mine.inB 0 3 f <;> cases Mine.inB 0 3 t <;> cases Mine.inB 1 1000 a <;> simp [hft]
    · rw [if_neg h1, if_neg h1, if_neg h1]
      by_cases h2 : k = 2
      · rw [if_pos h2, if_pos h2]
        by_cases ht : t = 0
        · cases Mine.inB 1 999 i <;> cases Mine.inB 0 3 f <;> simp [ht]
        · cases Mine.inB 1 999 i <;> cases Mine.inB 0 3 f <;> simp [ht]
      · rw [if_neg h2, if_neg h2]

def goodCmdsB (l : List S27) : Bool := if Mine.anyP (fun c => !goodS c) l = true then false else decide ((l.length : Int) ≤ 60)
theorem l11Cmds_ev (l : List S27) (hm : l.length ≤ 9223372036854775807) : Ev (fun k => spec_l11Cmds.f k l) (goodCmdsB l) := by
  unfold goodCmdsB spec_l11Cmds.f
  refine loop_any (fun k i => spec_l11Cmds.l0 k l l (l.length : Int) i) l z27 (fun c => !goodS c) false (decide ((l.length : Int) ≤ 60)) (fun i hi => ?_) (fun _ => Ev.step (f := fun _ => some _) (fun k => by simp only [spec_l11Cmds.l0]; rw [if_neg (by omega)]) (Ev.now _))
  have body : ∀ k, spec_l11Cmds.l0 (k + 1) l l (l.length : Int) (i : Int) = if goodS (l.getD i z27) = true then spec_l11Cmds.l0 k l l (l.length : Int) ((i + 1 : Nat) : Int) else some false := by
    intro k
    simp only [spec_l11Cmds.l0]
    rw [if_pos (by omega), if_pos (by omega), if_pos (by omega), rdC_nat, specGoodCmd, Option.bind_some, wrap_next hi hm]
    rfl
  refine ⟨fun hp => ?_, fun hp r hr => ?_⟩
  · simp only [Bool.not_eq_true'] at hp
    exact Ev.step (f := fun _ => some false) (fun k => by rw [body, hp, if_neg (by simp)]) (Ev.now _)
  · simp only [Bool.not_eq_false'] at hp
    exact Ev.step (fun k => by rw [body, hp, if_pos rfl]) hr
theorem goodCmds_parts {l : List S27} (h : goodCmdsB l = true) : l.length ≤ 60 ∧ ∀ c ∈ l, goodS c = true := by
  unfold goodCmdsB at h
  split at h
  · cases h
  · rename_i hn
    rw [decide_eq_true_eq] at h
    refine ⟨by omega, fun c hc => ?_⟩
    have := Mine.anyP_false.1 (Bool.eq_false_iff.2 hn) c hc
    simpa using this

/-- Commands one after another: the sums, and what each is told. -/
def playL : List S27 → List Int → List S36 → List Int × List S36
  | [], s, t => (s, t)
  | c :: cs, s, t => playL cs (applyL s c.f0 c.f2 c.f3 c.f4).1 (t ++ [⟨(applyL s c.f0 c.f2 c.f3 c.f4).2.1, (applyL s c.f0 c.f2 c.f3 c.f4).2.2⟩])
theorem playL_len1 : ∀ (l : List S27) (s : List Int) (t : List S36), (playL l s t).1.length = s.length
  | [], _, _ => rfl
  | c :: cs, s, t => by rw [playL, playL_len1 cs]; exact applyL_length _ _ _ _ _
theorem playL_len2 : ∀ (l : List S27) (s : List Int) (t : List S36), (playL l s t).2.length = t.length + l.length
  | [], _, _ => rfl
  | c :: cs, s, t => by rw [playL, playL_len2 cs]; simp only [List.length_append, List.length_cons, List.length_nil]; omega
theorem specPlay_l (l : List S27) (hl : l.length ≤ 60) (hg : ∀ c ∈ l, goodS c = true) : ∀ (d i : Nat) (s : List Int) (t : List S36), l.length - i = d → s.length = 4 → t.length ≤ i → i ≤ l.length →
    Ev (fun k => spec_l11Play.l0 k s t l (l.length : Int) (i : Int)) (playL (l.drop i) s t) := by
  intro d
  induction d with
  | zero =>
    intro i s t hd hs ht hi
    rw [List.drop_eq_nil_of_le (by omega)]
    exact Ev.step (f := fun _ => some (s, t)) (fun k => by simp only [spec_l11Play.l0]; rw [if_neg (by omega)]) (Ev.now _)
  | succ d ih =>
    intro i s t hd hs ht hi
    have hlt : i < l.length := by omega
    have hm := hg _ (Mine.getD_mem l z27 i hlt)
    rw [Mine.drop_at l z27 i hlt, playL]
    refine Ev.step (fun k => ?_) (ih (i + 1) _ _ (by omega) (by rw [applyL_length]; exact hs) (by rw [List.length_append, List.length_singleton]; omega) (by omega))
    simp only [spec_l11Play.l0]
    rw [if_pos (by omega), if_pos (by omega), if_pos (by omega), rdC_nat, specApply_f _ _ _ _ _ _ hs hm, Option.bind_some, if_pos (by omega), wrap_next hlt (by omega)]
theorem specPlay_ev (l : List S27) (h : goodCmdsB l = true) : Ev (fun k => spec_l11Play.f k l) (playL l [100, 100, 100, 100] []) := by
  obtain ⟨hl, hg⟩ := goodCmds_parts h
  unfold spec_l11Play.f
  exact Ev.bind specNewSums_ev (by simpa using specPlay_l l hl hg _ 0 [100, 100, 100, 100] [] rfl rfl (by simp) (by omega))

theorem implApply_f (l : List Int) (k i f t a : Int) (hl : l.length = 4) (h : Mine.goodCmdB k i f t a = true) : impl_apply.f l k i f t a = some ((applyL l k f t a).2.1, (applyL l k f t a).2.2, (applyL l k f t a).1) := by
  unfold impl_apply.f applyL
  rcases good_parts h with ⟨rfl, _, rfl, rfl, _⟩ | ⟨rfl, _, hf, ht, hne, _⟩ | ⟨rfl, _, hf, _⟩
  · simp
  · have hfl : f < (l.length : Int) := by omega
    have htl : t < (l.length : Int) := by omega
    simp only [if_neg (show ¬ (1 : Int) = 2 by omega), if_neg (show ¬ (1 : Int) = 0 by omega), if_pos hf.1, if_pos hfl, if_pos (rfl : (1 : Int) = 1), if_pos ht.1, if_pos htl, Option.bind_some]
    unfold rd
    by_cases hlt : l.getD f.toNat 0 < a
    · simp only [if_pos hlt, if_true]
    · simp only [if_neg hlt, if_true]
  · have hfl : f < (l.length : Int) := by omega
    simp only [if_pos (rfl : (2 : Int) = 2), if_pos hf.1, if_pos hfl, if_true]; rfl

theorem within_f (a b c : Int) : impl_within.f a b c = some (Mine.inB b c a) := by
  unfold impl_within.f Mine.inB
  by_cases h : b ≤ a
  · rw [if_pos h]; simp [h]
  · rw [if_neg h]; simp [h]

theorem implGoodCmd (k i f t a : Int) : impl_GoodCmd.f k i f t a = some (Mine.goodCmdB k i f t a) := by
  unfold impl_GoodCmd.f impl_isAccount.f Mine.goodCmdB
  simp only [within_f, Option.bind_some]
  by_cases h0 : k = 0
  · simp [h0]
  · rw [if_neg h0, if_neg h0]
    by_cases h1 : k = 1
    · rw [if_pos h1, if_pos h1]
      by_cases hft : f = t
      · cases Mine.inB 1 999 i <;> cases Mine.inB 0 3 f <;> cases Mine.inB 0 3 t <;> simp [hft]
      · cases Mine.inB 1 999 i <;> cases Mine.inB 0 3 f <;> cases Mine.inB 0 3 t <;> cases Mine.inB 1 1000 a <;> simp [hft]
    · rw [if_neg h1, if_neg h1]
      by_cases h2 : k = 2
      · rw [if_pos h2, if_pos h2]
        by_cases ht : t = 0
        · cases Mine.inB 1 999 i <;> cases Mine.inB 0 3 f <;> simp [ht]
        · cases Mine.inB 1 999 i <;> cases Mine.inB 0 3 f <;> simp [ht]
      · rw [if_neg h2, if_neg h2]

theorem implGoodCmds_f (l : List S27) : impl_goodCmds.f l = some (goodCmdsB l) := by
  unfold impl_goodCmds.f impl_goodCmds_1_in_c.f goodCmdsB
  rw [Mine.anyO_total (q := fun c => !goodS c) (fun x _ => by unfold impl_goodCmds_1.f; rw [implGoodCmd, Option.bind_some]; rfl), Option.bind_some]
  by_cases h : (l.length : Int) ≤ 60
  · rw [if_pos h, decide_eq_true h]
    cases Mine.anyP (fun c => !goodS c) l <;> simp
  · rw [if_neg h, decide_eq_false h]
    cases Mine.anyP (fun c => !goodS c) l <;> simp

theorem implPlay_l (l : List S27) (hl : l.length ≤ 60) (hg : ∀ c ∈ l, goodS c = true) : ∀ (d i : Nat) (s : List Int) (t : List S36), l.length - i = d → s.length = 4 → t.length ≤ i → i ≤ l.length →
    Ev (fun k => impl_playCmds.l0 k s t l (l.length : Int) (i : Int)) (playL (l.drop i) s t) := by
  intro d
  induction d with
  | zero =>
    intro i s t hd hs ht hi
    rw [List.drop_eq_nil_of_le (by omega)]
    exact Ev.step (f := fun _ => some (s, t)) (fun k => by simp only [impl_playCmds.l0]; rw [if_neg (by omega)]) (Ev.now _)
  | succ d ih =>
    intro i s t hd hs ht hi
    have hlt : i < l.length := by omega
    have hm := hg _ (Mine.getD_mem l z27 i hlt)
    rw [Mine.drop_at l z27 i hlt, playL]
    refine Ev.step (fun k => ?_) (ih (i + 1) _ _ (by omega) (by rw [applyL_length]; exact hs) (by rw [List.length_append, List.length_singleton]; omega) (by omega))
    simp only [impl_playCmds.l0]
    rw [if_pos (by omega), if_pos (by omega), if_pos (by omega), rdC_nat, implApply_f _ _ _ _ _ _ hs hm, Option.bind_some, if_pos (by omega), wrap_next hlt (by omega)]
theorem implPlay_ev (l : List S27) (h : goodCmdsB l = true) : Ev (fun k => impl_playCmds.f k l) (playL l [100, 100, 100, 100] []) := by
  obtain ⟨hl, hg⟩ := goodCmds_parts h
  unfold impl_playCmds.f
  rw [show impl_NewSums.f = some [100, 100, 100, 100] from rfl]
  simp only [Option.bind_some]
  simpa using implPlay_l l hl hg _ 0 [100, 100, 100, 100] [] rfl rfl (by simp) (by omega)

theorem eqCmdS_l (xs : List S27) (hm : xs.length ≤ 9223372036854775807) : ∀ (d i : Nat), xs.length - i = d → Ev (fun k => laws_eqCmdS.l0 k xs xs (i : Int)) true := by
  intro d
  induction d with
  | zero => intro i hd; exact Ev.step (f := fun _ => some true) (fun k => by simp only [laws_eqCmdS.l0]; rw [if_neg (by omega)]) (Ev.now _)
  | succ d ih =>
    intro i hd
    refine Ev.step (fun k => ?_) (ih (i + 1) (by omega))
    simp only [laws_eqCmdS.l0, laws_eqCmd.f]
    rw [if_pos (by omega), if_pos (by omega), if_pos (by omega), wrap_next (n := xs.length) (by omega) hm]
    simp
theorem eqCmdS_ev (xs : List S27) (hm : xs.length ≤ 9223372036854775807) : Ev (fun k => laws_eqCmdS.f k xs xs) true := by
  unfold laws_eqCmdS.f
  refine Ev.congr (fun k => by rw [if_pos rfl]) (by simpa using eqCmdS_l xs hm _ 0 rfl)
theorem szCmdS_f (l : List S23) (a : Int) (h0 : 0 ≤ a) (h1 : a ≤ 1048576) (hl : l.length ≤ 9223372036854775807) : laws_szCmdS.f l a = some (if (l.length : Int) ≤ a then a - (l.length : Int) else -1) := by
  have hw : wrap64 (a - (l.length : Int)) = a - (l.length : Int) := by unfold wrap64; omega
  unfold laws_szCmdS.f
  rw [hw]
  by_cases h : (l.length : Int) ≤ a
  · rw [if_neg (by omega), if_pos h]
  · rw [if_pos (by omega), if_neg h]

/-- Are two commands the same? -/
def sameC (c x : S27) : Bool := c.f0 == x.f0 && (c.f1 == x.f1 && (c.f2 == x.f2 && (c.f3 == x.f3 && c.f4 == x.f4)))
theorem sameC_not (c x : S27) : (!(x.f0 == c.f0) || (!(x.f1 == c.f1) || (!(x.f2 == c.f2) || (!(x.f3 == c.f3) || !(x.f4 == c.f4))))) = !sameC c x := by
  unfold sameC
  rw [BEq.comm (a := x.f0), BEq.comm (a := x.f1), BEq.comm (a := x.f2), BEq.comm (a := x.f3), BEq.comm (a := x.f4)]
  simp only [Bool.not_and]
/-- Where a command stands, if it is there just once; else -1. -/
def onceS (l : List S27) (c : S27) : Int :=
  if Mine.idxP (sameC c) l 0 < 0 then -1 else if Mine.anyP (sameC c) (l.drop ((Mine.idxP (sameC c) l 0).toNat + 1)) = true then -1 else Mine.idxP (sameC c) l 0
theorem idxP_range {α : Type} (p : α → Bool) : ∀ (l : List α) (i : Int), Mine.idxP p l i = -1 ∨ (i ≤ Mine.idxP p l i ∧ Mine.idxP p l i < i + (l.length : Int))
  | [], _ => .inl rfl
  | x :: xs, i => by
    rw [Mine.idxP]
    by_cases h : p x = true
    · rw [if_pos h]; right; rw [List.length_cons]; omega
    · rw [if_neg h]
      rcases idxP_range p xs (i + 1) with h | h
      · exact .inl h
      · right; rw [List.length_cons]; omega
theorem onceS_range (l : List S27) (c : S27) : onceS l c = -1 ∨ (0 ≤ onceS l c ∧ onceS l c < (l.length : Int)) := by
  unfold onceS
  split
  · exact .inl rfl
  · split
    · exact .inl rfl
    · rcases idxP_range (sameC c) l 0 with h | h
      · exact .inl h
      · right; omega
theorem onceS_idx {l : List S27} {c : S27} (h : 0 ≤ onceS l c) : Mine.idxP (sameC c) l 0 = onceS l c := by
  unfold onceS at h ⊢
  split at h
  · omega
  · split at h
    · omega
    · rename_i h1 h2
      rw [if_neg h1, if_neg h2]

theorem once_body (l : List S27) (c : S27) (hm : l.length ≤ 9223372036854775807) (i : Nat) (hi : i < l.length) (at_ : Int) (k : Nat) :
    spec_l11Once.l0 (k + 1) at_ l (l.length : Int) (i : Int) c.f0 c.f1 c.f2 c.f3 c.f4 = if sameC c (l.getD i z27) = true then (if at_ ≥ 0 then some (-1) else spec_l11Once.l0 k (i : Int) l (l.length : Int) ((i + 1 : Nat) : Int) c.f0 c.f1 c.f2 c.f3 c.f4) else spec_l11Once.l0 k at_ l (l.length : Int) ((i + 1 : Nat) : Int) c.f0 c.f1 c.f2 c.f3 c.f4 := by
  simp only [spec_l11Once.l0]
  rw [if_pos (by omega), if_pos (by omega), if_pos (by omega), rdC_nat, sameC_not, wrap_next hi hm]
  cases sameC c (l.getD i z27) <;> simp
theorem once_l1 (l : List S27) (c : S27) (hm : l.length ≤ 9223372036854775807) (at_ : Int) (ha : 0 ≤ at_) : ∀ (d i : Nat), l.length - i = d → i ≤ l.length →
    Ev (fun k => spec_l11Once.l0 k at_ l (l.length : Int) (i : Int) c.f0 c.f1 c.f2 c.f3 c.f4) (if Mine.anyP (sameC c) (l.drop i) = true then -1 else at_) := by
  intro d
  induction d with
  | zero =>
    intro i hd hi
    rw [List.drop_eq_nil_of_le (by omega)]
    exact Ev.step (f := fun _ => some at_) (fun k => by simp only [spec_l11Once.l0]; rw [if_neg (by omega)]) (by simpa [Mine.anyP] using Ev.now _)
  | succ d ih =>
    intro i hd hi
    have hlt : i < l.length := by omega
    rw [Mine.drop_at l z27 i hlt, Mine.anyP_cons]
    cases hp : sameC c (l.getD i z27) with
    | true => exact Ev.step (f := fun _ => some (-1)) (fun k => by rw [once_body l c hm i hlt, hp, if_pos rfl, if_pos ha]) (by simpa using Ev.now _)
    | false =>
      rw [Bool.false_or]
      exact Ev.step (fun k => by rw [once_body l c hm i hlt, hp, if_neg (by simp)]) (ih (i + 1) (by omega) (by omega))
theorem once_l0 (l : List S27) (c : S27) (hm : l.length ≤ 9223372036854775807) : ∀ (d i : Nat), l.length - i = d → i ≤ l.length →
    Ev (fun k => spec_l11Once.l0 k (-1) l (l.length : Int) (i : Int) c.f0 c.f1 c.f2 c.f3 c.f4) (if Mine.idxP (sameC c) (l.drop i) i < 0 then -1 else if Mine.anyP (sameC c) (l.drop ((Mine.idxP (sameC c) (l.drop i) i).toNat + 1)) = true then -1 else Mine.idxP (sameC c) (l.drop i) i) := by
  intro d
  induction d with
  | zero =>
    intro i hd hi
    rw [List.drop_eq_nil_of_le (by omega)]
    exact Ev.step (f := fun _ => some (-1)) (fun k => by simp only [spec_l11Once.l0]; rw [if_neg (by omega)]) (by simpa [Mine.idxP] using Ev.now _)
  | succ d ih =>
    intro i hd hi
    have hlt : i < l.length := by omega
    rw [Mine.drop_at l z27 i hlt, Mine.idxP]
    cases hp : sameC c (l.getD i z27) with
    | true =>
      rw [if_pos rfl, if_neg (by omega), Int.toNat_natCast]
      exact Ev.step (fun k => by rw [once_body l c hm i hlt, hp, if_pos rfl, if_neg (by omega)]) (once_l1 l c hm (i : Int) (by omega) _ (i + 1) rfl (by omega))
    | false =>
      have e : (if false = true then (i : Int) else Mine.idxP (sameC c) (l.drop (i + 1)) ((i : Int) + 1)) = Mine.idxP (sameC c) (l.drop (i + 1)) ((i + 1 : Nat) : Int) := by simp
      rw [e]
      exact Ev.step (fun k => by rw [once_body l c hm i hlt, hp, if_neg (by simp)]) (ih (i + 1) (by omega) (by omega))
theorem specOnce_ev (l : List S27) (c : S27) (hm : l.length ≤ 9223372036854775807) : Ev (fun k => spec_l11Once.f k l c.f0 c.f1 c.f2 c.f3 c.f4) (onceS l c) := by
  unfold spec_l11Once.f onceS
  simpa using once_l0 l c hm _ 0 rfl (by omega)

theorem anyO_ev {α : Type} (p : Nat → α → Option Bool) : ∀ (xs : List α) (q : α → Bool), (∀ x ∈ xs, Ev (fun k => p k x) (q x)) → Ev (fun k => Mine.anyO (p k) xs) (Mine.anyP q xs)
  | [], q, _ => Ev.const rfl
  | x :: xs, q, h => by
    simp only [Mine.anyO]
    refine Ev.bind (h x (by simp)) ?_
    rw [Mine.anyP_cons]
    cases hq : q x with
    | true => simpa using Ev.now true
    | false => simpa using anyO_ev p xs q (fun y hy => h y (by simp [hy]))

theorem indexC_l (l : List S27) (c : S27) (hm : l.length ≤ 9223372036854775807) : ∀ (d i : Nat), l.length - i = d → i ≤ l.length →
    Ev (fun k => impl_Cmd_72.l0 k l (l.length : Int) (i : Int) c.f0 c.f1 c.f2 c.f3 c.f4) (Mine.idxP (sameC c) (l.drop i) i) := by
  intro d
  induction d with
  | zero =>
    intro i hd hi
    rw [List.drop_eq_nil_of_le (by omega)]
    exact Ev.step (f := fun _ => some (-1)) (fun k => by simp only [impl_Cmd_72.l0]; rw [if_neg (by omega)]) (Ev.now _)
  | succ d ih =>
    intro i hd hi
    have hlt : i < l.length := by omega
    have body : ∀ k, impl_Cmd_72.l0 (k + 1) l (l.length : Int) (i : Int) c.f0 c.f1 c.f2 c.f3 c.f4 = if sameC c (l.getD i z27) = true then some (i : Int) else impl_Cmd_72.l0 k l (l.length : Int) ((i + 1 : Nat) : Int) c.f0 c.f1 c.f2 c.f3 c.f4 := by
      intro k
      simp only [impl_Cmd_72.l0]
      rw [if_pos (by omega), if_pos (by omega), if_pos (by omega), rdC_nat, wrap_next hlt hm]
      rfl
    rw [Mine.drop_at l z27 i hlt, Mine.idxP]
    cases hp : sameC c (l.getD i z27) with
    | true => rw [if_pos rfl]; exact Ev.step (f := fun _ => some (i : Int)) (fun k => by rw [body, hp, if_pos rfl]) (Ev.now _)
    | false => rw [if_neg (by simp)]; exact Ev.step (fun k => by rw [body, hp, if_neg (by simp)]) (by simpa using ih (i + 1) (by omega) (by omega))
theorem indexC_ev (l : List S27) (c : S27) (hm : l.length ≤ 9223372036854775807) : Ev (fun k => impl_Cmd_72.f k l c.f0 c.f1 c.f2 c.f3 c.f4) (Mine.idxP (sameC c) l 0) := by
  unfold impl_Cmd_72.f
  simpa using indexC_l l c hm _ 0 rfl (by omega)
theorem onceIn1_ev (l : List S27) (c : S27) (hm : l.length ≤ 9223372036854775806) : Ev (fun k => impl_onceIn_1.f k c.f0 c.f1 c.f2 c.f3 c.f4 l) (decide (onceS l c < 0)) := by
  unfold impl_onceIn_1.f onceS
  refine Ev.bind (indexC_ev l c (by omega)) ?_
  rcases idxP_range (sameC c) l 0 with h | ⟨h0, h1⟩
  · rw [h]; simpa using Ev.now true
  · have hw : wrap64 (Mine.idxP (sameC c) l 0 + 1) = Mine.idxP (sameC c) l 0 + 1 := by unfold wrap64; omega
    simp only [if_neg (show ¬ Mine.idxP (sameC c) l 0 < 0 by omega), hw, if_pos (show (0 : Int) ≤ Mine.idxP (sameC c) l 0 + 1 by omega), if_pos (show Mine.idxP (sameC c) l 0 + 1 ≤ (l.length : Int) by omega), impl_Cmd_103.f]
    have e : (Mine.idxP (sameC c) l 0 + 1).toNat = (Mine.idxP (sameC c) l 0).toNat + 1 := by omega
    rw [e]
    have hd : (l.drop ((Mine.idxP (sameC c) l 0).toNat + 1)).length ≤ 9223372036854775807 := by rw [List.length_drop]; omega
    refine Ev.bind (Ev.bind (indexC_ev _ c hd) (Ev.now _)) ?_
    have hx := Mine.idxP_any (sameC c) (l.drop ((Mine.idxP (sameC c) l 0).toNat + 1)) 0 (Int.le_refl _)
    rw [show decide (Mine.idxP (sameC c) (l.drop ((Mine.idxP (sameC c) l 0).toNat + 1)) 0 ≥ 0) = Mine.anyP (sameC c) (l.drop ((Mine.idxP (sameC c) l 0).toNat + 1)) from hx]
    cases hp : Mine.anyP (sameC c) (l.drop ((Mine.idxP (sameC c) l 0).toNat + 1)) with
    | true => simpa using Ev.now true
    | false => simpa [show ¬ Mine.idxP (sameC c) l 0 < 0 by omega] using Ev.now false
theorem onceIn_ev (a b : List S27) (hm : b.length ≤ 9223372036854775806) : Ev (fun k => impl_onceIn.f k a b) (!Mine.anyP (fun c => decide (onceS b c < 0)) a) := by
  unfold impl_onceIn.f impl_onceIn_1_in_c.f
  exact Ev.map (anyO_ev (fun k (x : S27) => impl_onceIn_1.f k x.f0 x.f1 x.f2 x.f3 x.f4 b) a (fun c => decide (onceS b c < 0)) (fun x _ => onceIn1_ev b x hm)) (fun t => !t)

theorem l1Same_l (xs ys : List Int) (he : xs.length = ys.length) (hm : xs.length ≤ 9223372036854775807) : ∀ (d i : Nat), xs.length - i = d → Ev (fun k => spec_l1Same.l0 k xs ys (xs.length : Int) (i : Int)) (decide (xs.drop i = ys.drop i)) := by
  intro d
  induction d with
  | zero =>
    intro i hd
    rw [List.drop_eq_nil_of_le (show xs.length ≤ i by omega), List.drop_eq_nil_of_le (show ys.length ≤ i by omega)]
    exact Ev.step (f := fun _ => some true) (fun k => by simp only [spec_l1Same.l0]; rw [if_neg (by omega)]) (Ev.now _)
  | succ d ih =>
    intro i hd
    have hlt : i < xs.length := by omega
    rw [Mine.drop_at xs 0 i hlt, Mine.drop_at ys 0 i (by omega)]
    have body : ∀ k, spec_l1Same.l0 (k + 1) xs ys (xs.length : Int) (i : Int) = if xs.getD i 0 = ys.getD i 0 then spec_l1Same.l0 k xs ys (xs.length : Int) ((i + 1 : Nat) : Int) else some false := by
      intro k
      simp only [spec_l1Same.l0]
      rw [if_pos (by omega), if_pos (by omega), if_pos (by omega), if_pos (by omega), rd_nat, rd_nat, wrap_next hlt hm]
    by_cases hb : xs.getD i 0 = ys.getD i 0
    · refine Ev.step (f := fun k => spec_l1Same.l0 k xs ys (xs.length : Int) ((i + 1 : Nat) : Int)) (fun k => by rw [body, if_pos hb]) ?_
      have : decide (xs.getD i 0 :: xs.drop (i + 1) = ys.getD i 0 :: ys.drop (i + 1)) = decide (xs.drop (i + 1) = ys.drop (i + 1)) := by rw [hb]; simp
      rw [this]
      exact ih (i + 1) (by omega)
    · refine Ev.step (f := fun _ => some false) (fun k => by rw [body, if_neg hb]) ?_
      have : decide (xs.getD i 0 :: xs.drop (i + 1) = ys.getD i 0 :: ys.drop (i + 1)) = false := by
        rw [decide_eq_false_iff_not]; intro h; exact hb (List.cons.inj h).1
      rw [this]
      exact Ev.now _
/-- Are numbers the same? -/
theorem l1Same_ev (xs ys : List Int) (hm : xs.length ≤ 9223372036854775807) : Ev (fun k => spec_l1Same.f k xs ys) (decide (xs = ys)) := by
  unfold spec_l1Same.f
  by_cases h : xs.length = ys.length
  · exact Ev.congr (f := fun k => spec_l1Same.l0 k xs ys (xs.length : Int) ((0 : Nat) : Int)) (fun k => by rw [if_pos (by omega)]; rfl) (l1Same_l xs ys h hm _ 0 rfl)
  · refine Ev.congr (f := fun _ => some false) (fun k => by rw [if_neg (by omega)]) ?_
    rw [decide_eq_false (fun e => h (by rw [e]))]
    exact Ev.now _

theorem equalInts_l (xs ys : List Int) (he : xs.length = ys.length) (hm : xs.length ≤ 9223372036854775807) : ∀ (d i : Nat), xs.length - i = d → Ev (fun k => slices_Equal_int_int.l0 k xs ys (xs.length : Int) (i : Int)) (decide (xs.drop i = ys.drop i)) := by
  intro d
  induction d with
  | zero =>
    intro i hd
    rw [List.drop_eq_nil_of_le (show xs.length ≤ i by omega), List.drop_eq_nil_of_le (show ys.length ≤ i by omega)]
    exact Ev.step (f := fun _ => some true) (fun k => by simp only [slices_Equal_int_int.l0]; rw [if_neg (by omega)]) (Ev.now _)
  | succ d ih =>
    intro i hd
    have hlt : i < xs.length := by omega
    rw [Mine.drop_at xs 0 i hlt, Mine.drop_at ys 0 i (by omega)]
    have body : ∀ k, slices_Equal_int_int.l0 (k + 1) xs ys (xs.length : Int) (i : Int) = if xs.getD i 0 = ys.getD i 0 then slices_Equal_int_int.l0 k xs ys (xs.length : Int) ((i + 1 : Nat) : Int) else some false := by
      intro k
      simp only [slices_Equal_int_int.l0]
      rw [if_pos (by omega), if_pos (by omega), if_pos (by omega), if_pos (by omega), rd_nat, rd_nat, wrap_next hlt hm]
    by_cases hb : xs.getD i 0 = ys.getD i 0
    · refine Ev.step (f := fun k => slices_Equal_int_int.l0 k xs ys (xs.length : Int) ((i + 1 : Nat) : Int)) (fun k => by rw [body, if_pos hb]) ?_
      have : decide (xs.getD i 0 :: xs.drop (i + 1) = ys.getD i 0 :: ys.drop (i + 1)) = decide (xs.drop (i + 1) = ys.drop (i + 1)) := by rw [hb]; simp
      rw [this]
      exact ih (i + 1) (by omega)
    · refine Ev.step (f := fun _ => some false) (fun k => by rw [body, if_neg hb]) ?_
      have : decide (xs.getD i 0 :: xs.drop (i + 1) = ys.getD i 0 :: ys.drop (i + 1)) = false := by
        rw [decide_eq_false_iff_not]; intro h; exact hb (List.cons.inj h).1
      rw [this]
      exact Ev.now _
/-- Are numbers the same? -/
theorem equalInts_ev (xs ys : List Int) (hm : xs.length ≤ 9223372036854775807) : Ev (fun k => slices_Equal_int_int.f k xs ys) (decide (xs = ys)) := by
  unfold slices_Equal_int_int.f
  by_cases h : xs.length = ys.length
  · exact Ev.congr (f := fun k => slices_Equal_int_int.l0 k xs ys (xs.length : Int) ((0 : Nat) : Int)) (fun k => by rw [if_pos (by omega)]; rfl) (equalInts_l xs ys h hm _ 0 rfl)
  · refine Ev.congr (f := fun _ => some false) (fun k => by rw [if_neg (by omega)]) ?_
    rw [decide_eq_false (fun e => h (by rw [e]))]
    exact Ev.now _

theorem anyP_zip {α β : Type} (f : α → Bool) (g : β → Bool) : ∀ (a : List α) (b : List β), a.length = b.length → Mine.anyP (fun xy => f xy.1 || g xy.2) (a.zip b) = (Mine.anyP f a || Mine.anyP g b)
  | [], [], _ => rfl
  | [], _ :: _, h => by simp at h
  | _ :: _, [], h => by simp at h
  | x :: a, y :: b, h => by
    rw [List.zip_cons_cons, Mine.anyP_cons, Mine.anyP_cons, Mine.anyP_cons, anyP_zip f g a b (by simpa using h)]
    cases f x <;> cases g y <;> cases Mine.anyP f a <;> simp
theorem getD_zip {α β : Type} (a : List α) (b : List β) (i : Nat) (x : α) (y : β) (ha : i < a.length) (hb : i < b.length) : (a.zip b).getD i (x, y) = (a.getD i x, b.getD i y) := by
  have h : (a.zip b)[i]? = some (a[i], b[i]) := by rw [List.getElem?_eq_getElem (by rw [List.length_zip]; omega), List.getElem_zip]
  simp [List.getD_eq_getElem?_getD, ha, hb, h]
/-- Is what a command of one order is told another thing than in the other one? -/
def otherT (b : List S27) (other : List S36) (ct : S27 × S36) : Bool :=
  !(ct.2.f0 == (other.getD (onceS b ct.1).toNat z36).f0) || !(ct.2.f1 == (other.getD (onceS b ct.1).toNat z36).f1)
def allOnce (a b : List S27) : Bool := !(Mine.anyP (fun c => decide (onceS b c < 0)) a || Mine.anyP (fun c => decide (onceS a c < 0)) b)
def tellsIn (a b : List S27) : Bool × Bool :=
  if Mine.anyP (otherT b (playL b [100, 100, 100, 100] []).2) (a.zip (playL a [100, 100, 100, 100] []).2) = true then (false, true)
  else (decide ((playL a [100, 100, 100, 100] []).1 = (playL b [100, 100, 100, 100] []).1), true)
def tellsR (a b : List S27) : Bool × Bool :=
  if goodCmdsB a = true ∧ goodCmdsB b = true ∧ a.length = b.length ∧ allOnce a b = true then tellsIn a b else (false, false)
theorem rdT_nat (l : List S36) (i : Nat) : rd_T36 l (i : Int) = l.getD i z36 := by unfold rd_T36; rw [Int.toNat_natCast]
theorem specTells_l1 (a b : List S27) (s u : List Int) (told other : List S36) (ha : a.length ≤ 60) (hb : b.length ≤ 60) (ht : told.length = a.length) (ho : other.length = b.length) (hs : s.length ≤ 4) (hp : ∀ c ∈ a, 0 ≤ onceS b c) :
    Ev (fun k => spec_TellsSame.l1 k b s told u other a (a.length : Int) 0) (if Mine.anyP (otherT b other) (a.zip told) = true then (false, true) else (decide (s = u), true)) := by
  have hz : (a.zip told).length = a.length := by rw [List.length_zip]; omega
  refine loop_any (fun k i => spec_TellsSame.l1 k b s told u other a (a.length : Int) i) (a.zip told) (z27, z36) (otherT b other) (false, true) (decide (s = u), true) (fun i hi => ?_) (fun _ => ?_)
  · rw [hz] at hi
    have hc := hp _ (Mine.getD_mem a z27 i hi)
    have hr := onceS_range b (a.getD i z27)
    have hw : ∀ r : Bool × Bool, Ev (fun k => if otherT b other (a.getD i z27, told.getD i z36) = true then some (false, true) else spec_TellsSame.l1 k b s told u other a (a.length : Int) ((i + 1 : Nat) : Int)) r → Ev (fun k => spec_TellsSame.l1 k b s told u other a (a.length : Int) (i : Int)) r := by
      intro r h
      refine Ev.step (f := fun k => (spec_l11Once.f k b (a.getD i z27).f0 (a.getD i z27).f1 (a.getD i z27).f2 (a.getD i z27).f3 (a.getD i z27).f4).bind _) (fun k => by
        simp only [spec_TellsSame.l1]
        rw [if_pos (by omega), if_pos (by omega), if_pos (by omega), if_pos (by omega), rdC_nat, rdT_nat, wrap_next hi (by omega)]) ?_
      refine Ev.bind (specOnce_ev b _ (by omega)) ?_
      have e : rd_T36 other (onceS b (a.getD i z27)) = other.getD (onceS b (a.getD i z27)).toNat z36 := rfl
      simp only [if_pos hc, if_pos (show onceS b (a.getD i z27) < (other.length : Int) by omega), e]
      exact h
    rw [getD_zip a told i z27 z36 hi (by omega)]
    refine ⟨fun h => hw _ ?_, fun h r hr2 => hw _ ?_⟩
    · simp only [h, if_true]; exact Ev.now _
    · simp only [h, Bool.false_eq_true, if_false]; exact hr2
  · rw [hz]
    refine Ev.step (f := fun k => (spec_l1Same.f k s u).bind fun t => some (t, true)) (fun k => by simp only [spec_TellsSame.l1]; rw [if_neg (by omega)]) ?_
    exact Ev.map (l1Same_ev s u (by omega)) (fun t => (t, true))
theorem implTells_l0 (a b : List S27) (s u : List Int) (told other : List S36) (ha : a.length ≤ 60) (hb : b.length ≤ 60) (ht : told.length = a.length) (ho : other.length = b.length) (hs : s.length ≤ 4) (hp : ∀ c ∈ a, 0 ≤ onceS b c) :
    Ev (fun k => impl_TellsSame.l0 k b s told u other a (a.length : Int) 0) (if Mine.anyP (otherT b other) (a.zip told) = true then (false, true) else (decide (s = u), true)) := by
  have hz : (a.zip told).length = a.length := by rw [List.length_zip]; omega
  refine loop_any (fun k i => impl_TellsSame.l0 k b s told u other a (a.length : Int) i) (a.zip told) (z27, z36) (otherT b other) (false, true) (decide (s = u), true) (fun i hi => ?_) (fun _ => ?_)
  · rw [hz] at hi
    have hc := hp _ (Mine.getD_mem a z27 i hi)
    have hr := onceS_range b (a.getD i z27)
    have hw : ∀ r : Bool × Bool, Ev (fun k => if otherT b other (a.getD i z27, told.getD i z36) = true then some (false, true) else impl_TellsSame.l0 k b s told u other a (a.length : Int) ((i + 1 : Nat) : Int)) r → Ev (fun k => impl_TellsSame.l0 k b s told u other a (a.length : Int) (i : Int)) r := by
      intro r h
      refine Ev.step (f := fun k => (impl_Cmd_72.f k b (a.getD i z27).f0 (a.getD i z27).f1 (a.getD i z27).f2 (a.getD i z27).f3 (a.getD i z27).f4).bind _) (fun k => by
        simp only [impl_TellsSame.l0]
        rw [if_pos (by omega), if_pos (by omega), if_pos (by omega), if_pos (by omega), rdC_nat, rdT_nat, wrap_next hi (by omega)]) ?_
      refine Ev.bind (indexC_ev b _ (by omega)) ?_
      rw [onceS_idx hc]
      have e : rd_T36 other (onceS b (a.getD i z27)) = other.getD (onceS b (a.getD i z27)).toNat z36 := rfl
      simp only [if_pos hc, if_pos (show onceS b (a.getD i z27) < (other.length : Int) by omega), e]
      exact h
    rw [getD_zip a told i z27 z36 hi (by omega)]
    refine ⟨fun h => hw _ ?_, fun h r hr2 => hw _ ?_⟩
    · simp only [h, if_true]; exact Ev.now _
    · simp only [h, Bool.false_eq_true, if_false]; exact hr2
  · rw [hz]
    refine Ev.step (f := fun k => (slices_Equal_int_int.f k s u).bind fun t => some (t, true)) (fun k => by simp only [impl_TellsSame.l0]; rw [if_neg (by omega)]) ?_
    exact Ev.map (equalInts_ev s u (by omega)) (fun t => (t, true))
theorem once_of {a b : List S27} (h : Mine.anyP (fun c => decide (onceS b c < 0)) a = false) : ∀ c ∈ a, 0 ≤ onceS b c := fun c hc => by
  have := Mine.anyP_false.1 h c hc
  rw [decide_eq_false_iff_not] at this
  omega
theorem specTells_l0 (a b : List S27) (ga : goodCmdsB a = true) (gb : goodCmdsB b = true) (hl : a.length = b.length) :
    Ev (fun k => spec_TellsSame.l0 k a b (a.length : Int) 0) (if allOnce a b = true then tellsIn a b else (false, false)) := by
  obtain ⟨ha, _⟩ := goodCmds_parts ga
  obtain ⟨hb, _⟩ := goodCmds_parts gb
  have hz : (a.zip b).length = a.length := by rw [List.length_zip]; omega
  have e : allOnce a b = !Mine.anyP (fun xy : S27 × S27 => decide (onceS b xy.1 < 0) || decide (onceS a xy.2 < 0)) (a.zip b) := by
    unfold allOnce; rw [anyP_zip (fun c => decide (onceS b c < 0)) (fun c => decide (onceS a c < 0)) a b hl]
  have key := loop_any (fun k i => spec_TellsSame.l0 k a b (a.length : Int) i) (a.zip b) (z27, z27) (fun xy : S27 × S27 => decide (onceS b xy.1 < 0) || decide (onceS a xy.2 < 0)) (false, false) (tellsIn a b) (fun i hi => ?_) (fun hn => ?_)
  · rw [e]
    cases hq : Mine.anyP (fun xy : S27 × S27 => decide (onceS b xy.1 < 0) || decide (onceS a xy.2 < 0)) (a.zip b) with
    | true => rw [hq] at key; simpa using key
    | false => rw [hq] at key; simpa using key
  · rw [hz] at hi
    have hw : ∀ r : Bool × Bool, Ev (fun k => if (decide (onceS b (a.getD i z27) < 0) || decide (onceS a (b.getD i z27) < 0)) = true then some (false, false) else spec_TellsSame.l0 k a b (a.length : Int) ((i + 1 : Nat) : Int)) r → Ev (fun k => spec_TellsSame.l0 k a b (a.length : Int) (i : Int)) r := by
      intro r h
      refine Ev.step (f := fun k => (spec_l11Once.f k b (a.getD i z27).f0 (a.getD i z27).f1 (a.getD i z27).f2 (a.getD i z27).f3 (a.getD i z27).f4).bind _) (fun k => by
        simp only [spec_TellsSame.l0]
        rw [if_pos (by omega), if_pos (by omega), if_pos (by omega), rdC_nat, rdC_nat, wrap_next hi (by omega)]) ?_
      refine Ev.bind (specOnce_ev b _ (by omega)) ?_
      by_cases h1 : onceS b (a.getD i z27) < 0
      · simp only [h1, decide_true, Bool.true_or, if_true] at h ⊢; exact h
      · simp only [h1, decide_false, Bool.false_or, if_false, if_pos (show (i : Int) < (b.length : Int) by omega)] at h ⊢
        refine Ev.bind (specOnce_ev a _ (by omega)) ?_
        by_cases h2 : onceS a (b.getD i z27) < 0
        · simp only [h2, decide_true, if_true] at h ⊢; exact h
        · simp only [h2, decide_false, Bool.false_eq_true, if_false] at h ⊢; exact h
    rw [getD_zip a b i z27 z27 hi (by omega)]
    refine ⟨fun h => hw _ ?_, fun h r hr2 => hw _ ?_⟩
    · simp only [h, if_true]; exact Ev.now _
    · simp only [h, Bool.false_eq_true, if_false]; exact hr2
  · rw [hz]
    rw [anyP_zip (fun c => decide (onceS b c < 0)) (fun c => decide (onceS a c < 0)) a b hl, Bool.or_eq_false_iff] at hn
    refine Ev.step (fun k => by simp only [spec_TellsSame.l0]; rw [if_neg (by omega)]) (Ev.bind (specPlay_ev a ga) (Ev.bind (specPlay_ev b gb) ?_))
    unfold tellsIn
    exact specTells_l1 a b _ _ _ _ ha hb (by rw [playL_len2]; simp) (by rw [playL_len2]; simp) (by rw [playL_len1]; simp) (once_of hn.1)
theorem tellsR_false1 {a b : List S27} (h : ¬ (goodCmdsB a = true ∧ goodCmdsB b = true ∧ a.length = b.length ∧ allOnce a b = true)) : tellsR a b = (false, false) := by unfold tellsR; rw [if_neg h]
theorem specTells_ev (a b : List S27) (ma : a.length ≤ 9223372036854775806) (mb : b.length ≤ 9223372036854775806) : Ev (fun k => spec_TellsSame.f k a b) (tellsR a b) := by
  have hj : Ev (fun k => spec_TellsSame.j0 k a b true) (false, false) := Ev.step (f := fun _ => some _) (fun k => by simp only [spec_TellsSame.j0]; rw [if_pos trivial]) (Ev.now _)
  unfold spec_TellsSame.f
  refine Ev.bind (l11Cmds_ev a (by omega)) ?_
  cases ga : goodCmdsB a with
  | false => rw [tellsR_false1 (by simp [ga])]; simpa using hj
  | true =>
    simp only [if_true]
    refine Ev.bind (l11Cmds_ev b (by omega)) ?_
    cases gb : goodCmdsB b with
    | false => rw [tellsR_false1 (by simp [gb])]; simpa using hj
    | true =>
      simp only [if_true]
      by_cases hl : a.length = b.length
      · have h1 := specTells_l0 a b ga gb hl
        have e : tellsR a b = if allOnce a b = true then tellsIn a b else (false, false) := by unfold tellsR; simp [ga, gb, hl]
        rw [e]
        exact Ev.step (fun k => by simp only [spec_TellsSame.j0]; rw [if_neg (by simp [hl])]) h1
      · rw [tellsR_false1 (by simp [hl])]
        rw [show ((a.length : Int) != (b.length : Int)) = true by simp; omega]
        exact hj
theorem implTells_ev (a b : List S27) (ma : a.length ≤ 9223372036854775806) (mb : b.length ≤ 9223372036854775806) : Ev (fun k => impl_TellsSame.f k a b) (tellsR a b) := by
  have hj : Ev (fun k => impl_TellsSame.j0 k a b true) (false, false) := Ev.step (f := fun _ => some _) (fun k => by simp only [impl_TellsSame.j0]; rw [if_pos trivial]) (Ev.now _)
  unfold impl_TellsSame.f
  simp only [implGoodCmds_f, Option.bind_some]
  cases ga : goodCmdsB a with
  | false => rw [tellsR_false1 (by simp [ga])]; simpa using hj
  | true =>
    simp only [if_true]
    cases gb : goodCmdsB b with
    | false => rw [tellsR_false1 (by simp [gb])]; simpa using hj
    | true =>
      simp only [if_true]
      by_cases hl : a.length = b.length
      · simp only [if_pos (show (a.length : Int) = (b.length : Int) by omega)]
        refine Ev.bind (onceIn_ev a b mb) ?_
        cases h1 : Mine.anyP (fun c => decide (onceS b c < 0)) a with
        | true => rw [tellsR_false1 (by simp [allOnce, h1])]; simpa using hj
        | false =>
          simp only [Bool.not_false, if_true]
          refine Ev.bind (onceIn_ev b a ma) ?_
          cases h2 : Mine.anyP (fun c => decide (onceS a c < 0)) b with
          | true => rw [tellsR_false1 (by simp [allOnce, h2])]; simpa using hj
          | false =>
            have e : tellsR a b = tellsIn a b := by unfold tellsR; rw [if_pos ⟨ga, gb, hl, by simp [allOnce, h1, h2]⟩]
            obtain ⟨ha, _⟩ := goodCmds_parts ga
            obtain ⟨hb, _⟩ := goodCmds_parts gb
            rw [e]
            refine Ev.step (fun k => by simp only [impl_TellsSame.j0]; rw [if_neg (by simp)]) (Ev.bind (implPlay_ev a ga) (Ev.bind (implPlay_ev b gb) ?_))
            unfold tellsIn
            exact implTells_l0 a b _ _ _ _ ha hb (by rw [playL_len2]; simp) (by rw [playL_len2]; simp) (by rw [playL_len1]; simp) (once_of h1)
      · rw [tellsR_false1 (by simp [hl])]
        simp only [if_neg (show ¬ (a.length : Int) = (b.length : Int) by omega)]
        exact hj
theorem FnExactTellsSame : laws_FnExactTellsSame.Pure := by
  intro l m ⟨hl, _⟩ ⟨hm, _⟩
  unfold laws_FnExactTellsSame.Facts
  refine ⟨_, szCmdS_f l 1048576 (by omega) (by omega) hl, ?_⟩
  by_cases h : (l.length : Int) ≤ 1048576
  · rw [if_pos h]
    refine .inr ⟨by omega, _, szCmdS_f m _ (by omega) (by omega) hm, ?_⟩
    by_cases h2 : (m.length : Int) ≤ 1048576 - (l.length : Int)
    · rw [if_pos h2]
      have e1 : (l.map cv).length = l.length := List.length_map _
      have e2 : (m.map cv).length = m.length := List.length_map _
      exact .inr ⟨by omega, l.map cv, Ev.rounds (toCmdS_ev l (by omega)), m.map cv, Ev.rounds (toCmdS_ev m (by omega)), (tellsR (l.map cv) (m.map cv)).1, (tellsR (l.map cv) (m.map cv)).2, Ev.rounds (specTells_ev _ _ (by omega) (by omega)), Ev.rounds (implTells_ev _ _ (by omega) (by omega)), Ev.rounds (eqCmdS_ev _ (by omega)), Ev.rounds (eqCmdS_ev _ (by omega)), trivial⟩
    · rw [if_neg h2]
      exact .inl (by omega)
  · rw [if_neg h]
    exact .inl (by omega)

end Go.Proofs.Ytbhhgeecieeefaa.Pure
