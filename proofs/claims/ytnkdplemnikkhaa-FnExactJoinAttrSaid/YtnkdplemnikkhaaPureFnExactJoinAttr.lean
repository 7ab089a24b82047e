/- The law FnExactJoinAttr holds, for every input. -/
import Derived.Test.YtnkdplemnikkhaaQFnExactJoinAttrx5
import Derived.Test.YtnkdplemnikkhaaMine
namespace Go.Proofs.Ytnkdplemnikkhaa.Pure
open Go.RowKit Go.Proofs.Ytnkdplemnikkhaa.QFnExactJoinAttr Go.Proofs.YtnkdplemnikkhaaW.PrintWords Go.Proofs.YtnkdplemnikkhaaW.PrintLast Go.Proofs.YtnkdplemnikkhaaW.PrintMore
set_option linter.unusedVariables false
set_option linter.unusedSimpArgs false

theorem wrap_next {i : Nat} {n : Nat} (h : i < n) (hn : n ≤ 9223372036854775807) : wrap64 ((i : Int) + 1) = ((i + 1 : Nat) : Int) := by
  unfold wrap64
  omega
theorem rd_nat (l : List Int) (i : Nat) : rd l (i : Int) = l.getD i 0 := by unfold rd; rw [Int.toNat_natCast]
theorem wrap_small {x : Int} (h0 : -9223372036854775808 ≤ x) (h1 : x ≤ 9223372036854775807) : wrap64 x = x := by unfold wrap64; omega
theorem Ev.const {α : Type} {o : Option α} {a : α} (h : o = some a) : Ev (fun _ => o) a := ⟨0, fun _ _ => h⟩
theorem Ev.map {α β : Type} {g : Nat → Option α} {a : α} (h : Ev g a) (f : α → β) : Ev (fun k => (g k).bind fun t => some (f t)) (f a) := by
  obtain ⟨K, h⟩ := h
  exact ⟨K, fun k hk => by show (g k).bind _ = _; rw [h k hk, Option.bind_some]⟩
/-- A loop over a list's elements that ends at the first hit. -/
theorem loop_any {α ρ : Type} (F : Nat → Int → Option ρ) (xs : List α) (d : α) (p : α → Bool) (hit miss : ρ)
    (hs : ∀ i, i < xs.length → (p (xs.getD i d) = true → Ev (fun k => F k (i : Int)) hit) ∧ (p (xs.getD i d) = false → ∀ r, Ev (fun k => F k ((i + 1 : Nat) : Int)) r → Ev (fun k => F k (i : Int)) r))
    (he : Mine.anyP p xs = false → Ev (fun k => F k (xs.length : Int)) miss) : Ev (fun k => F k 0) (if Mine.anyP p xs = true then hit else miss) := by
  have key : ∀ (n i : Nat), xs.length - i = n → i ≤ xs.length → Mine.anyP p (xs.take i) = false → Ev (fun k => F k (i : Int)) (if Mine.anyP p (xs.drop i) = true then hit else miss) := by
    intro n
    induction n with
    | zero =>
      intro i hn hi hb
      obtain rfl : i = xs.length := by omega
      rw [List.drop_eq_nil_of_le (Nat.le_refl _)]
      rw [List.take_of_length_le (Nat.le_refl _)] at hb
      simpa [Mine.anyP] using he hb
    | succ n ih =>
      intro i hn hi hb
      rw [Mine.drop_at xs d i (by omega), Mine.anyP_cons]
      cases hp : p (xs.getD i d) with
      | true => simpa using (hs i (by omega)).1 hp
      | false =>
        have hb' : Mine.anyP p (xs.take (i + 1)) = false := by
          have e : xs.take (i + 1) = xs.take i ++ [xs.getD i d] := by
            rw [List.take_add_one, List.getD_eq_getElem?_getD, List.getElem?_eq_getElem (show i < xs.length by omega)]; rfl
          rw [e]
          unfold Mine.anyP at hb ⊢
          rw [List.any_append, hb, List.any_cons, hp]
          rfl
        simpa using (hs i (by omega)).2 hp _ (ih (i + 1) (by omega) (by omega) hb')
  simpa using key xs.length 0 (by omega) (by omega) (by simp [Mine.anyP])
/-- What a loop over a list's elements comes to: a state that goes on, or a result. -/
def scan {σ α ρ : Type} (step : α → σ → Sum σ ρ) (fin : σ → ρ) : List α → σ → ρ
  | [], s => fin s
  | x :: xs, s => match step x s with
    | .inl s' => scan step fin xs s'
    | .inr r => r
theorem loop_scan {σ α ρ : Type} (F : Nat → σ → Int → Option ρ) (xs : List α) (d : α) (step : α → σ → Sum σ ρ) (fin : σ → ρ) (P : Nat → σ → Prop)
    (hs : ∀ (i : Nat) (s : σ), i < xs.length → P i s → (∀ s', step (xs.getD i d) s = .inl s' → P (i + 1) s' ∧ ∀ r, Ev (fun k => F k s' ((i + 1 : Nat) : Int)) r → Ev (fun k => F k s (i : Int)) r) ∧ (∀ r, step (xs.getD i d) s = .inr r → Ev (fun k => F k s (i : Int)) r))
    (he : ∀ s, P xs.length s → Ev (fun k => F k s (xs.length : Int)) (fin s)) (s : σ) (h0 : P 0 s) : Ev (fun k => F k s 0) (scan step fin xs s) := by
  have key : ∀ (n i : Nat) (s : σ), xs.length - i = n → i ≤ xs.length → P i s → Ev (fun k => F k s (i : Int)) (scan step fin (xs.drop i) s) := by
    intro n
    induction n with
    | zero =>
      intro i s hn hi hp
      obtain rfl : i = xs.length := by omega
      rw [List.drop_eq_nil_of_le (Nat.le_refl _)]
      exact he s hp
    | succ n ih =>
      intro i s hn hi hp
      rw [Mine.drop_at xs d i (by omega), scan]
      cases hst : step (xs.getD i d) s with
      | inl s' => exact ((hs i s (by omega) hp).1 s' hst).2 _ (ih (i + 1) s' (by omega) (by omega) ((hs i s (by omega) hp).1 s' hst).1)
      | inr r => exact (hs i s (by omega) hp).2 r hst
  simpa using key xs.length 0 s (by omega) (by omega) h0

theorem szIntS_f (l : List Int) (a : Int) (h0 : 0 ≤ a) (h1 : a ≤ 1048576) (hl : l.length ≤ 9223372036854775807) : laws_szIntS.f l a = some (if (l.length : Int) ≤ a then a - (l.length : Int) else -1) := by
  have hw : wrap64 (a - (l.length : Int)) = a - (l.length : Int) := by unfold wrap64; omega
  unfold laws_szIntS.f
  rw [hw]
  by_cases h : (l.length : Int) ≤ a
  · rw [if_neg (by omega), if_pos h]
  · rw [if_pos (by omega), if_neg h]

theorem szAttr_f (s : Int) (l : List Int) (a : Int) (h0 : 0 ≤ a) (h1 : a ≤ 1048576) (hl : l.length ≤ 9223372036854775807) : laws_szAttr.f s l a = some (if (l.length : Int) ≤ a then a - (l.length : Int) else -1) := by
  unfold laws_szAttr.f
  rw [szIntS_f l a h0 h1 hl, Option.bind_some]
  by_cases h : (l.length : Int) ≤ a
  · rw [if_pos h, if_neg (by omega)]
  · rw [if_neg h, if_pos (by omega)]

theorem toIntS_l (xs : List Int) (hm : xs.length ≤ 9223372036854775807) : ∀ (d i : Nat) (acc : List Int), xs.length - i = d → i ≤ xs.length → acc.length = xs.length → acc.take i = xs.take i → Ev (fun k => laws_toIntS.l0 k xs acc (i : Int)) xs := by
  intro d
  induction d with
  | zero =>
    intro i acc hd hi hl ht
    have e : acc = xs := Mine.take_all (i := i) (by omega) hl ht
    exact Ev.step (f := fun _ => some xs) (fun k => by simp only [laws_toIntS.l0]; rw [if_neg (by omega), e]) (Ev.now _)
  | succ d ih =>
    intro i acc hd hi hl ht
    refine Ev.step (f := fun k => laws_toIntS.l0 k xs (acc.set i (xs.getD i 0)) ((i + 1 : Nat) : Int)) (fun k => ?_) (ih (i + 1) _ (by omega) (by omega) (by simpa using hl) (Mine.take_set xs acc 0 i (by omega) hl ht))
    simp only [laws_toIntS.l0]
    rw [if_pos (by omega), if_pos (by omega), if_pos (by omega), wrap_next (n := xs.length) (by omega) hm, rd_nat, Int.toNat_natCast]
/-- A copy of numbers. -/
theorem toIntS_ev (xs : List Int) (hm : xs.length ≤ 1048576) : Ev (fun k => laws_toIntS.f k xs) xs := by
  refine Ev.congr (f := fun k => laws_toIntS.l0 k xs (List.replicate xs.length 0) ((0 : Nat) : Int)) (fun k => ?_) (toIntS_l xs (by omega) _ 0 _ rfl (by omega) (by simp) (by simp))
  unfold laws_toIntS.f
  rw [if_pos (by omega), if_pos (by omega)]
  simp

theorem toAttr_ev (s : Int) (l : List Int) (hm : l.length ≤ 1048576) : Ev (fun k => laws_toAttr.f k s l) (s, l) := Ev.bind (toIntS_ev l hm) (Ev.now _)

theorem eqIntS_l (xs : List Int) (hm : xs.length ≤ 9223372036854775807) : ∀ (d i : Nat), xs.length - i = d → Ev (fun k => laws_eqIntS.l0 k xs xs (i : Int)) true := by
  intro d
  induction d with
  | zero => intro i hd; exact Ev.step (f := fun _ => some true) (fun k => by simp only [laws_eqIntS.l0]; rw [if_neg (by omega)]) (Ev.now _)
  | succ d ih =>
    intro i hd
    refine Ev.step (f := fun k => laws_eqIntS.l0 k xs xs ((i + 1 : Nat) : Int)) (fun k => ?_) (ih (i + 1) (by omega))
    simp only [laws_eqIntS.l0]
    rw [if_pos (by omega), if_pos (by omega), if_pos (by omega), if_pos trivial, wrap_next (n := xs.length) (by omega) hm]
/-- Numbers are the same as themselves. -/
theorem eqIntS_ev (xs : List Int) (hm : xs.length ≤ 9223372036854775807) : Ev (fun k => laws_eqIntS.f k xs xs) true := by
  refine Ev.congr (f := fun k => laws_eqIntS.l0 k xs xs ((0 : Nat) : Int)) (fun k => ?_) (eqIntS_l xs hm _ 0 rfl)
  unfold laws_eqIntS.f
  rw [if_pos rfl]
  rfl

theorem eqAttr_ev (s : Int) (l : List Int) (hm : l.length ≤ 9223372036854775807) : Ev (fun k => laws_eqAttr.f k s l s l) true := by
  unfold laws_eqAttr.f
  refine Ev.congr (f := fun k => (laws_eqIntS.f k l l).bind fun t => if t = true then some true else some false) (fun k => by rw [if_pos rfl]) (Ev.bind (eqIntS_ev l hm) (Ev.now _))

theorem markIntS_l (m : Int) (n : Nat) (hm : n ≤ 9223372036854775807) (h0 : 0 ≤ m) (h1 : m + n ≤ 9223372036854775807) : ∀ (d i : Nat) (acc : List Int), n - i = d → i ≤ n → acc.length = n → acc.take i = (Mine.seqI m n).take i →
    Ev (fun k => laws_markIntS.l0 k acc (m + (i : Int)) (i : Int)) (m + (n : Int), Mine.seqI m n) := by
  intro d
  induction d with
  | zero =>
    intro i acc hd hi hl ht
    obtain rfl : i = n := by omega
    have e : acc = Mine.seqI m i := Mine.take_all (i := i) (by rw [Mine.seqI_length]; omega) (by rw [Mine.seqI_length]; exact hl) ht
    exact Ev.step (f := fun _ => some _) (fun k => by simp only [laws_markIntS.l0]; rw [if_neg (by omega), e]) (Ev.now _)
  | succ d ih =>
    intro i acc hd hi hl ht
    have hs := Mine.take_set (Mine.seqI m n) acc 0 i (by rw [Mine.seqI_length]; omega) (by rw [Mine.seqI_length]; exact hl) ht
    rw [Mine.seqI_get m n i 0 (by omega)] at hs
    refine Ev.step (f := fun k => laws_markIntS.l0 k (acc.set i (m + (i : Int))) (m + ((i + 1 : Nat) : Int)) ((i + 1 : Nat) : Int)) (fun k => ?_) (ih (i + 1) _ (by omega) (by omega) (by simpa using hl) hs)
    have hw : wrap64 (m + (i : Int) + 1) = m + ((i + 1 : Nat) : Int) := by unfold wrap64; omega
    simp only [laws_markIntS.l0]
    rw [if_pos (by omega), if_pos (by omega), hw, wrap_next (n := n) (by omega) hm, Int.toNat_natCast]
/-- A row is written over with numbers that go on. -/
theorem markIntS_ev (l : List Int) (m : Int) (hm : l.length ≤ 9223372036854775807) (h0 : 0 ≤ m) (h1 : m + l.length ≤ 9223372036854775807) : Ev (fun k => laws_markIntS.f k l m) (m + (l.length : Int), Mine.seqI m l.length) := by
  have := markIntS_l m l.length hm h0 h1 _ 0 l rfl (by omega) rfl (by simp)
  unfold laws_markIntS.f
  simpa using this

theorem heldIntS_l (m : Int) (n : Nat) (hm : n ≤ 9223372036854775807) (h0 : 0 ≤ m) (h1 : m + n ≤ 9223372036854775807) : ∀ (d i : Nat), n - i = d → i ≤ n →
    Ev (fun k => laws_heldIntS.l0 k (Mine.seqI m n) (m + (i : Int)) (i : Int)) (m + (n : Int)) := by
  intro d
  induction d with
  | zero =>
    intro i hd hi
    obtain rfl : i = n := by omega
    exact Ev.step (f := fun _ => some _) (fun k => by simp only [laws_heldIntS.l0]; rw [if_neg (by rw [Mine.seqI_length]; omega)]) (Ev.now _)
  | succ d ih =>
    intro i hd hi
    refine Ev.step (f := fun k => laws_heldIntS.l0 k (Mine.seqI m n) (m + ((i + 1 : Nat) : Int)) ((i + 1 : Nat) : Int)) (fun k => ?_) (ih (i + 1) (by omega) (by omega))
    have hw : wrap64 (m + (i : Int) + 1) = m + ((i + 1 : Nat) : Int) := by unfold wrap64; omega
    simp only [laws_heldIntS.l0]
    rw [if_pos (by rw [Mine.seqI_length]; omega), if_pos (by omega), rd_nat, Mine.seqI_get m n i 0 (by omega), if_pos rfl, hw, wrap_next (n := n) (by omega) hm]
/-- A row that was written so is found so. -/
theorem heldIntS_ev (m : Int) (n : Nat) (hm : n ≤ 9223372036854775807) (h0 : 0 ≤ m) (h1 : m + n ≤ 9223372036854775807) : Ev (fun k => laws_heldIntS.f k (Mine.seqI m n) m) (m + (n : Int)) := by
  have := heldIntS_l m n hm h0 h1 _ 0 rfl (by omega)
  unfold laws_heldIntS.f
  simpa using this

theorem specGroup (n : Int) : spec_IsGroup.f n = some (decide (n = 3 ∨ n = 5)) := by
  unfold spec_IsGroup.f
  by_cases h : n = 3
  · rw [if_pos h]; simp [h]
  · rw [if_neg h]; by_cases h5 : n = 5 <;> simp [h, h5]

theorem l1In_f (a b c : Int) : spec_l1In.f a b c = some (Mine.inB b c a) := by
  unfold spec_l1In.f Mine.inB
  by_cases h : a ≥ b
  · rw [if_pos h]; simp [show b ≤ a from h]
  · rw [if_neg h]; simp [show ¬ b ≤ a from h]

theorem l1All_l (xs : List Int) (lo hi : Int) (hm : xs.length ≤ 9223372036854775807) : ∀ (d i : Nat), xs.length - i = d → Ev (fun k => spec_l1All.l0 k lo hi xs (xs.length : Int) (i : Int)) (!Mine.anyP (Mine.outB lo hi) (xs.drop i)) := by
  intro d
  induction d with
  | zero =>
    intro i hd
    rw [List.drop_eq_nil_of_le (by omega)]
    exact Ev.step (f := fun _ => some true) (fun k => by simp only [spec_l1All.l0]; rw [if_neg (by omega)]) (Ev.now _)
  | succ d ih =>
    intro i hd
    have hlt : i < xs.length := by omega
    rw [Mine.drop_at xs 0 i hlt, Mine.anyP_cons]
    have body : ∀ k, spec_l1All.l0 (k + 1) lo hi xs (xs.length : Int) (i : Int) = if Mine.inB lo hi (xs.getD i 0) = true then spec_l1All.l0 k lo hi xs (xs.length : Int) ((i + 1 : Nat) : Int) else some false := by
      intro k
      simp only [spec_l1All.l0]
      rw [if_pos (by omega), if_pos (by omega), if_pos (by omega), rd_nat, l1In_f, Option.bind_some, wrap_next hlt hm]
    cases hb : Mine.inB lo hi (xs.getD i 0) with
    | true =>
      refine Ev.step (f := fun k => spec_l1All.l0 k lo hi xs (xs.length : Int) ((i + 1 : Nat) : Int)) (fun k => by rw [body, if_pos hb]) ?_
      have : Mine.outB lo hi (xs.getD i 0) = false := by unfold Mine.outB; rw [hb]; rfl
      rw [this, Bool.false_or]
      exact ih (i + 1) (by omega)
    | false =>
      refine Ev.step (f := fun _ => some false) (fun k => by rw [body, if_neg (by rw [hb]; simp)]) ?_
      have : Mine.outB lo hi (xs.getD i 0) = true := by unfold Mine.outB; rw [hb]; rfl
      rw [this, Bool.true_or]
      exact Ev.now _
theorem l1All_ev (xs : List Int) (lo hi : Int) (hm : xs.length ≤ 9223372036854775807) : Ev (fun k => spec_l1All.f k xs lo hi) (!Mine.anyP (Mine.outB lo hi) xs) := l1All_l xs lo hi hm _ 0 rfl

def goodAttrB (n s : Int) (l : List Int) : Bool := decide (n = 3 ∨ n = 5) && (Mine.inB 0 999 s && (decide ((l.length : Int) = n) && !Mine.anyP (Mine.outB 0 6) l))
theorem l3Attr_ev (n s : Int) (l : List Int) (hm : l.length ≤ 9223372036854775807) : Ev (fun k => spec_l3Attr.f k n s l) (Mine.inB 0 999 s && (decide ((l.length : Int) = n) && !Mine.anyP (Mine.outB 0 6) l)) := by
  unfold spec_l3Attr.f
  cases hs : Mine.inB 0 999 s with
  | false => exact Ev.congr (f := fun _ => some false) (fun k => by rw [l1In_f, Option.bind_some, hs, if_neg (by simp)]) (Ev.now _)
  | true =>
    by_cases hl : (l.length : Int) = n
    · refine Ev.congr (f := fun k => (spec_l1All.f k l 0 6).bind fun t => some t) (fun k => by rw [l1In_f, Option.bind_some, hs, if_pos rfl, if_pos hl]) ?_
      rw [decide_eq_true hl, Bool.true_and, Bool.true_and]
      exact Ev.bind (l1All_ev l 0 6 hm) (Ev.now _)
    · rw [decide_eq_false hl, Bool.false_and, Bool.and_false]
      exact Ev.congr (f := fun _ => some false) (fun k => by rw [l1In_f, Option.bind_some, hs, if_pos rfl, if_neg hl]) (Ev.now _)
theorem specGoodAttr_ev (n s : Int) (l : List Int) (hm : l.length ≤ 9223372036854775807) : Ev (fun k => spec_GoodAttr.f k n s l) (goodAttrB n s l) := by
  unfold spec_GoodAttr.f goodAttrB
  cases hg : decide (n = 3 ∨ n = 5) with
  | false => exact Ev.congr (f := fun _ => some false) (fun k => by rw [specGroup, Option.bind_some, hg, if_neg (by simp)]) (Ev.now _)
  | true =>
    refine Ev.congr (f := fun k => (spec_l3Attr.f k n s l).bind fun t => some t) (fun k => by rw [specGroup, Option.bind_some, hg, if_pos rfl]) ?_
    exact Ev.bind (l3Attr_ev n s l hm) (Ev.now _)

theorem implGroup (n : Int) : impl_IsGroup.f n = some (decide (n = 3 ∨ n = 5)) := by
  unfold impl_IsGroup.f
  by_cases h : n = 3
  · rw [if_pos h]; simp [h]
  · rw [if_neg h]; by_cases h5 : n = 5 <;> simp [h, h5]

theorem within_f (a b c : Int) : impl_within.f a b c = some (Mine.inB b c a) := by
  unfold impl_within.f Mine.inB
  by_cases h : b ≤ a
  · rw [if_pos h]; simp [h]
  · rw [if_neg h]; simp [h]

/-- The greater ones, place by place. -/
def jn : List Int → List Int → List Int
  | x :: xs, y :: ys => mx x y :: jn xs ys
  | _, _ => []
theorem jn_len : ∀ a b : List Int, (jn a b).length ≤ a.length
  | [], _ => Nat.le_refl _
  | _ :: _, [] => Nat.zero_le _
  | _ :: xs, _ :: ys => by
    have := jn_len xs ys
    simp only [jn, List.length_cons]; omega
theorem most_f (a b : Int) : spec_l1Most.f a b = some (mx a b) := by
  unfold spec_l1Most.f mx
  by_cases h1 : a > b
  · rw [if_pos h1, if_neg (by omega)]
  · rw [if_neg h1]
    by_cases h2 : a < b
    · rw [if_pos h2]
    · rw [if_neg h2]
      have : a = b := by omega
      rw [this]
theorem specJoin_l (l m : List Int) (s t q : Int) (he : l.length = m.length) (hl : l.length ≤ 9) : ∀ (d i : Nat) (acc : List Int), l.length - i = d → i ≤ l.length → acc.length ≤ 9 + i →
    Ev (fun k => spec_l3Join.l0 k (l.length : Int) (i : Int) s l t m q acc) (q, acc ++ jn (l.drop i) (m.drop i)) := by
  intro d
  induction d with
  | zero =>
    intro i acc hd hi ha
    rw [List.drop_eq_nil_of_le (show l.length ≤ i by omega)]
    refine Ev.step (f := fun _ => some _) (fun k => by simp only [spec_l3Join.l0]; rw [if_neg (by omega)]) ?_
    rw [jn, List.append_nil]
    · exact Ev.now _
    · intro x xs y ys h; cases h
  | succ d ih =>
    intro i acc hd hi ha
    have hlt : i < l.length := by omega
    rw [Mine.drop_at l 0 i hlt, Mine.drop_at m 0 i (by omega), jn]
    have := ih (i + 1) (acc ++ [mx (l.getD i 0) (m.getD i 0)]) (by omega) (by omega) (by rw [List.length_append]; simp; omega)
    rw [List.append_assoc] at this
    refine Ev.step (fun k => ?_) this
    simp only [spec_l3Join.l0]
    rw [if_pos (by omega), if_pos (by omega), if_pos (by omega), if_pos (by omega), rd_nat, rd_nat, most_f, Option.bind_some, if_pos (by omega), wrap_next hlt (by omega)]
theorem implJoin_l (l m : List Int) (t q : Int) (he : l.length = m.length) (hl : l.length ≤ 9) : ∀ (d i : Nat) (acc : List Int), l.length - i = d → i ≤ l.length → acc.length ≤ 9 + i →
    Ev (fun k => impl_Attr_join.l0 k l (l.length : Int) (i : Int) t m q acc) (q, acc ++ jn (l.drop i) (m.drop i)) := by
  intro d
  induction d with
  | zero =>
    intro i acc hd hi ha
    rw [List.drop_eq_nil_of_le (show l.length ≤ i by omega)]
    refine Ev.step (f := fun _ => some _) (fun k => by simp only [impl_Attr_join.l0]; rw [if_neg (by omega)]) ?_
    rw [jn, List.append_nil]
    · exact Ev.now _
    · intro x xs y ys h; cases h
  | succ d ih =>
    intro i acc hd hi ha
    have hlt : i < l.length := by omega
    rw [Mine.drop_at l 0 i hlt, Mine.drop_at m 0 i (by omega), jn]
    have := ih (i + 1) (acc ++ [mx (l.getD i 0) (m.getD i 0)]) (by omega) (by omega) (by rw [List.length_append]; simp; omega)
    rw [List.append_assoc] at this
    refine Ev.step (fun k => ?_) this
    simp only [impl_Attr_join.l0]
    rw [if_pos (by omega), if_pos (by omega), if_pos (by omega), if_pos (by omega), if_pos (by omega), rd_nat, rd_nat, wrap_next hlt (by omega)]
theorem goodAttr_parts {n s : Int} {l : List Int} (h : goodAttrB n s l = true) : (n = 3 ∨ n = 5) ∧ (l.length : Int) = n := by
  unfold goodAttrB at h
  rw [Bool.and_eq_true, Bool.and_eq_true, Bool.and_eq_true, decide_eq_true_eq, decide_eq_true_eq] at h
  exact ⟨h.1, h.2.2.1⟩
theorem both_ev (n s t : Int) (l m : List Int) (hl : l.length ≤ 9223372036854775807) (hm : m.length ≤ 9223372036854775807) :
    ∃ q, ∃ o : List Int, ∃ b, Ev (fun k => spec_JoinAttr.f k n s l t m) (q, o, b) ∧ Ev (fun k => impl_JoinAttr.f k n s l t m) (q, o, b) ∧ o.length ≤ 9 := by
  have hi1 : impl_GoodAttr.f n s l = some (goodAttrB n s l) := rfl
  have hi2 : impl_GoodAttr.f n t m = some (goodAttrB n t m) := rfl
  unfold spec_JoinAttr.f impl_JoinAttr.f
  simp only [hi1, hi2, Option.bind_some]
  cases h1 : goodAttrB n s l with
  | false =>
    refine ⟨0, [], false, Ev.bind (specGoodAttr_ev n s l hl) ?_, ?_, by simp⟩
    · simp only [h1]; exact Ev.now _
    · exact Ev.now _
  | true =>
    have hg := goodAttr_parts h1
    have e2 : (Mine.inB 0 999 t && (decide ((m.length : Int) = n) && !Mine.anyP (Mine.outB 0 6) m)) = goodAttrB n t m := by
      unfold goodAttrB; rw [decide_eq_true hg.1, Bool.true_and]
    have h3 := l3Attr_ev n t m hm
    rw [e2] at h3
    simp only [if_true]
    cases h2 : goodAttrB n t m with
    | false =>
      refine ⟨0, [], false, Ev.bind (specGoodAttr_ev n s l hl) ?_, ?_, by simp⟩
      · simp only [h1, if_true]
        refine Ev.bind h3 ?_
        simp only [h2]
        exact Ev.now _
      · exact Ev.now _
    | true =>
      have hg2 := goodAttr_parts h2
      have he : l.length = m.length := by omega
      have hlen : l.length ≤ 9 := by omega
      refine ⟨mx s t, jn l m, true, Ev.bind (specGoodAttr_ev n s l hl) ?_, ?_, by have := jn_len l m; omega⟩
      · simp only [h1, if_true]
        refine Ev.bind h3 ?_
        simp only [h2, if_true]
        refine Ev.bind (a := (mx s t, jn l m)) ?_ (Ev.now _)
        unfold spec_l3Join.f
        rw [most_f]
        exact specJoin_l l m s t (mx s t) he hlen _ 0 [] rfl (by omega) (by simp)
      · simp only [if_true]
        refine Ev.bind (a := (mx s t, jn l m)) ?_ (Ev.now _)
        unfold impl_Attr_join.f
        exact implJoin_l l m t (mx s t) he hlen _ 0 [] rfl (by omega) (by simp)
theorem markAttr_ev (s : Int) (l : List Int) (m : Int) (hm : l.length ≤ 9223372036854775807) (h0 : 0 ≤ m) (h1 : m + l.length ≤ 9223372036854775807) : Ev (fun k => laws_markAttr.f k s l m) (m + (l.length : Int), Mine.seqI m l.length) := by
  unfold laws_markAttr.f
  exact Ev.bind (markIntS_ev l m hm h0 h1) (Ev.now _)
theorem heldAttr_ev (s m : Int) (n : Nat) (hm : n ≤ 9223372036854775807) (h0 : 0 ≤ m) (h1 : m + n ≤ 9223372036854775807) : Ev (fun k => laws_heldAttr.f k s (Mine.seqI m n) m) (m + (n : Int)) := by
  unfold laws_heldAttr.f
  refine Ev.bind (heldIntS_ev m n hm h0 h1) ?_
  simp only [if_neg (show ¬ m + (n : Int) < 0 by omega)]
  exact Ev.now _
theorem FnExactJoinAttr : laws_FnExactJoinAttr.Pure := by
  rintro n ⟨s, l⟩ ⟨t, m⟩ _ ⟨_, hl, _⟩ ⟨_, hm, _⟩
  dsimp only at hl hm ⊢
  unfold laws_FnExactJoinAttr.Facts
  refine ⟨_, szAttr_f s l 1048576 (by omega) (by omega) hl, ?_⟩
  by_cases h : (l.length : Int) ≤ 1048576
  · rw [if_pos h]
    refine .inr ⟨by omega, _, szAttr_f t m _ (by omega) (by omega) hm, ?_⟩
    by_cases h2 : (m.length : Int) ≤ 1048576 - (l.length : Int)
    · rw [if_pos h2]
      obtain ⟨q, o, b, h3, h4, h5⟩ := both_ev n s t l m hl hm
      obtain ⟨K1, k1⟩ := Ev.rounds (markAttr_ev s l 1 (by omega) (by omega) (by omega))
      obtain ⟨K2, k2⟩ := Ev.rounds (markAttr_ev t m (1 + (l.length : Int)) (by omega) (by omega) (by omega))
      obtain ⟨K3, k3⟩ := Ev.rounds (markAttr_ev q o 1 (by omega) (by omega) (by omega))
      exact .inr ⟨by omega, Ev.rounds (toAttr_ev s l (by omega)), Ev.rounds (toAttr_ev t m (by omega)), q, o, b, Ev.rounds h3, Ev.rounds h4, Ev.rounds (eqAttr_ev q o (by omega)), Ev.rounds (eqAttr_ev s l hl), Ev.rounds (eqAttr_ev t m hm), _, _, ⟨K1, by omega, k1⟩, _, _, ⟨K2, by omega, k2⟩, _, _, ⟨K3, by omega, k3⟩, Ev.rounds (heldAttr_ev q 1 o.length (by omega) (by omega) (by omega)), trivial⟩
    · rw [if_neg h2]
      exact .inl (by omega)
  · rw [if_neg h]
    exact .inl (by omega)

end Go.Proofs.Ytnkdplemnikkhaa.Pure
