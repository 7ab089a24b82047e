/- The law FnExactAttrText holds, for every input. -/
import Derived.Test.YtmknjfnhfcljcaaDoorQFnExactAttrTextx4
import Derived.Test.YtmknjfnhfcljcaaDoorMine
namespace Go.Proofs.YtmknjfnhfcljcaaDoor.Pure
open Go.RowKit Go.Proofs.YtmknjfnhfcljcaaDoor.QFnExactAttrText Go.Proofs.YtmknjfnhfcljcaaDoorW.PrintWords Go.Proofs.YtmknjfnhfcljcaaDoorW.PrintLast Go.Proofs.YtmknjfnhfcljcaaDoorW.PrintMore
set_option linter.unusedVariables false
set_option linter.unusedSimpArgs false

theorem wrap_next {i : Nat} {n : Nat} (h : i < n) (hn : n ≤ 9223372036854775807) : wrap64 ((i : Int) + 1) = ((i + 1 : Nat) : Int) := by
  unfold wrap64
  omega
theorem rd_nat (l : List Int) (i : Nat) : rd l (i : Int) = l.getD i 0 := by unfold rd; rw [Int.toNat_natCast]
theorem wrap_small {x : Int} (h0 : -9223372036854775808 ≤ x) (h1 : x ≤ 9223372036854775807) : wrap64 x = x := by unfold wrap64; omega
theorem Ev.const {α : Type} {o : Option α} {a : α} (h : o = some a) : Ev (fun _ => o) a := ⟨0, fun _ _ => h⟩
theorem Ev.map {α β : Type} {g : Nat → Option α} {a : α} (h : Ev g a) (f : α → β) : Ev (fun k => (g k).bind fun t => some (f t)) (f a) := by
  obtain ⟨K, h⟩ := h
  exact ⟨K, fun k hk => by show (g k).bind _ = _; rw [h k hk, Option.bind_some]⟩
/-- A loop over a list's elements that ends at the first hit. -/
theorem loop_any {α ρ : Type} (F : Nat → Int → Option ρ) (xs : List α) (d : α) (p : α → Bool) (hit miss : ρ)
    (hs : ∀ i, i < xs.length → (p (xs.getD i d) = true → Ev (fun k => F k (i : Int)) hit) ∧ (p (xs.getD i d) = false → ∀ r, Ev (fun k => F k ((i + 1 : Nat) : Int)) r → Ev (fun k => F k (i : Int)) r))
    (he : Mine.anyP p xs = false → Ev (fun k => F k (xs.length : Int)) miss) : Ev (fun k => F k 0) (if Mine.anyP p xs = true then hit else miss) := by
  have key : ∀ (n i : Nat), xs.length - i = n → i ≤ xs.length → Mine.anyP p (xs.take i) = false → Ev (fun k => F k (i : Int)) (if Mine.anyP p (xs.drop i) = true then hit else miss) := by
    intro n
    induction n with
    | zero =>
      intro i hn hi hb
      obtain rfl : i = xs.length := by omega
      rw [List.drop_eq_nil_of_le (Nat.le_refl _)]
      rw [List.take_of_length_le (Nat.le_refl _)] at hb
      simpa [Mine.anyP] using he hb
    | succ n ih =>
      intro i hn hi hb
      rw [Mine.drop_at xs d i (by omega), Mine.anyP_cons]
      cases hp : p (xs.getD i d) with
      | true => simpa using (hs i (by omega)).1 hp
      | false =>
        have hb' : Mine.anyP p (xs.take (i + 1)) = false := by
          have e : xs.take (i + 1) = xs.take i ++ [xs.getD i d] := by
            rw [List.take_add_one, List.getD_eq_getElem?_getD, List.getElem?_eq_getElem (show i < xs.length by omega)]; rfl
          rw [e]
          unfold Mine.anyP at hb ⊢
          rw [List.any_append, hb, List.any_cons, hp]
          rfl
        simpa using (hs i (by omega)).2 hp _ (ih (i + 1) (by omega) (by omega) hb')
  simpa using key xs.length 0 (by omega) (by omega) (by simp [Mine.anyP])
/-- What a loop over a list's elements comes to: a state that goes on, or a result. -/
def scan {σ α ρ : Type} (step : α → σ → Sum σ ρ) (fin : σ → ρ) : List α → σ → ρ
  | [], s => fin s
  | x :: xs, s => match step x s with
    | .inl s' => scan step fin xs s'
    | .inr r => r
theorem loop_scan {σ α ρ : Type} (F : Nat → σ → Int → Option ρ) (xs : List α) (d : α) (step : α → σ → Sum σ ρ) (fin : σ → ρ) (P : Nat → σ → Prop)
    (hs : ∀ (i : Nat) (s : σ), i < xs.length → P i s → (∀ s', step (xs.getD i d) s = .inl s' → P (i + 1) s' ∧ ∀ r, Ev (fun k => F k s' ((i + 1 : Nat) : Int)) r → Ev (fun k => F k s (i : Int)) r) ∧ (∀ r, step (xs.getD i d) s = .inr r → Ev (fun k => F k s (i : Int)) r))
    (he : ∀ s, P xs.length s → Ev (fun k => F k s (xs.length : Int)) (fin s)) (s : σ) (h0 : P 0 s) : Ev (fun k => F k s 0) (scan step fin xs s) := by
  have key : ∀ (n i : Nat) (s : σ), xs.length - i = n → i ≤ xs.length → P i s → Ev (fun k => F k s (i : Int)) (scan step fin (xs.drop i) s) := by
    intro n
    induction n with
    | zero =>
      intro i s hn hi hp
      obtain rfl : i = xs.length := by omega
      rw [List.drop_eq_nil_of_le (Nat.le_refl _)]
      exact he s hp
    | succ n ih =>
      intro i s hn hi hp
      rw [Mine.drop_at xs d i (by omega), scan]
      cases hst : step (xs.getD i d) s with
      | inl s' => exact ((hs i s (by omega) hp).1 s' hst).2 _ (ih (i + 1) s' (by omega) (by omega) ((hs i s (by omega) hp).1 s' hst).1)
      | inr r => exact (hs i s (by omega) hp).2 r hst
  simpa using key xs.length 0 s (by omega) (by omega) h0

theorem ba_ext {a b : ByteArray} (h : a.data.toList = b.data.toList) : a = b := by
  cases a; cases b
  simpa using h
theorem ba_append (a b : ByteArray) : (a ++ b).data.toList = a.data.toList ++ b.data.toList := by simp [ByteArray.data_append]
theorem ba_size (a : ByteArray) : a.size = a.data.toList.length := by obtain ⟨⟨l⟩⟩ := a; rfl

/-- A number's text. -/
def numB (n : Int) : ByteArray := ⟨(Go.Lib.itoa n).toArray⟩
theorem numB_data (n : Int) : (numB n).data.toList = Go.Lib.itoa n := rfl
theorem numB_size (n : Int) (h0 : 0 ≤ n) (h1 : n ≤ 9223372036854775807) : (numB n).size ≤ 21 := by
  rw [ba_size, numB_data]
  exact Go.Lib.itoa_length_le n (by omega) h1
theorem l1Num_ev (u : Nat) : u ≤ 9223372036854775800 → Ev (fun k => spec_l1Num.f k (u : Int)) (numB (u : Int)) := by
  induction u using Nat.strongRecOn with
  | _ u ih =>
    intro hu
    by_cases h : u < 10
    · refine Ev.step (f := fun k => some (numB (u : Int))) (fun k => ?_) (Ev.now _)
      rw [spec_l1Num.f, if_pos (show (u : Int) < 10 by omega)]
      congr 1
      refine ba_ext ?_
      rw [numB_data, Go.Lib.itoa_nonneg, Go.Lib.decDigits, dif_pos h, strOfNums_data, wrap_small (by omega) (by omega)]
      simp only [List.map_cons, List.map_nil]
      congr 1
      rw [show ((48 + (u : Int)) % 256).toNat = 48 + u by omega]
    · have h1 := ih (u / 10) (by omega) (by omega)
      have hd : (wrap64 (48 + Int.tmod (u : Int) 10)) % 256 = ((48 + u % 10 : Nat) : Int) := by
        rw [show Int.tmod (u : Int) 10 = ((u % 10 : Nat) : Int) by rw [show (10 : Int) = ((10 : Nat) : Int) from rfl, ← Int.ofNat_tmod], wrap_small (by omega) (by omega)]
        omega
      refine Ev.step (f := fun k => (spec_l1Num.f k ((u / 10 : Nat) : Int)).bind fun t => if t.size + (strOfNums [((48 + u % 10 : Nat) : Int)]).size ≤ 9223372036854775807 then some (t ++ strOfNums [((48 + u % 10 : Nat) : Int)]) else none) (fun k => ?_) ?_
      · rw [spec_l1Num.f, if_neg (show ¬ (u : Int) < 10 by omega), hd, show wrap64 (Int.tdiv (u : Int) 10) = ((u / 10 : Nat) : Int) by rw [show (10 : Int) = ((10 : Nat) : Int) from rfl, ← Int.ofNat_tdiv, wrap_small (by omega) (by omega)]]
        rfl
      · have hs := numB_size ((u / 10 : Nat) : Int) (by omega) (by omega)
        refine Ev.bind h1 (Ev.const ?_)
        rw [if_pos (by rw [strOfNums_size]; simp only [List.length_cons, List.length_nil]; omega)]
        congr 1
        refine ba_ext ?_
        rw [ba_append, numB_data, numB_data, Go.Lib.itoa_nonneg, Go.Lib.itoa_nonneg, strOfNums_data]
        conv => rhs; rw [Go.Lib.decDigits, dif_neg h]
        simp only [List.map_cons, List.map_nil, Int.toNat_natCast]
/-- A number's text, by the reference's own hand. -/
theorem numEv (n : Int) (h0 : 0 ≤ n) (h1 : n ≤ 1000000) : Ev (fun k => spec_l1Num.f k n) (numB n) := by
  obtain ⟨u, rfl⟩ : ∃ u : Nat, n = u := ⟨n.toNat, by omega⟩
  exact l1Num_ev u (by omega)

/-- Numbers with something between. -/
def joinB (sep : ByteArray) (l : List Int) : ByteArray := ⟨(Go.Lib.join (l.map Go.Lib.itoa) sep.data.toList).toArray⟩
theorem joinB_data (sep : ByteArray) (l : List Int) : (joinB sep l).data.toList = Go.Lib.join (l.map Go.Lib.itoa) sep.data.toList := rfl
theorem joinB_le (sep : ByteArray) (l : List Int) (hl : ∀ x ∈ l, 0 ≤ x ∧ x ≤ 1000000) : (joinB sep l).size ≤ l.length * (21 + sep.size) := by
  rw [ba_size, joinB_data, ba_size]
  have h := join_le sep.data.toList 21 (l.map Go.Lib.itoa) (fun x hx => by
    obtain ⟨y, hy, rfl⟩ := List.mem_map.1 hx
    exact Go.Lib.itoa_length_le y (by have := hl y hy; omega) (by have := hl y hy; omega))
  rwa [List.length_map] at h
theorem joinedEv (sep : ByteArray) (l : List Int) (hs : sep.size ≤ 100) (hn : l.length ≤ 1000) (hl : ∀ x ∈ l, 0 ≤ x ∧ x ≤ 1000000) : Ev (fun k => impl_joined.f k sep l) (joinB sep l) := by
  have key : ∀ (n i : Nat) (acc : List ByteArray), l.length - i = n → i ≤ l.length → acc = (l.take i).map numB → Ev (fun k => impl_joined.l0 k sep acc l (l.length : Int) (i : Int)) (joinB sep l) := by
    intro n
    induction n with
    | zero =>
      intro i acc hi hi2 ha
      obtain rfl : i = l.length := by omega
      rw [List.take_of_length_le (Nat.le_refl _)] at ha
      have hm : acc.map (·.data.toList) = l.map Go.Lib.itoa := by
        rw [ha, List.map_map]
        exact List.map_congr_left (fun x _ => numB_data x)
      have hle := joinB_le sep l hl
      have hle2 : l.length * (21 + sep.size) ≤ 1000 * 121 := Nat.mul_le_mul hn (by omega)
      rw [ba_size, joinB_data] at hle
      refine Ev.step (f := fun k => (strings_Join.f acc sep).bind fun t => some t) (fun k => by rw [impl_joined.l0, if_neg (by omega)]) ?_
      unfold strings_Join.f
      rw [hm, if_pos ⟨by rw [ha, List.length_map]; omega, by omega⟩]
      exact Ev.now _
    | succ n ih =>
      intro i acc hi hi2 ha
      have hil : i < l.length := by omega
      have hx := hl (l.getD i 0) (by rw [List.getD_eq_getElem?_getD, List.getElem?_eq_getElem hil]; exact List.getElem_mem hil)
      refine Ev.step (f := fun k => impl_joined.l0 k sep (acc ++ [numB (l.getD i 0)]) l (l.length : Int) ((i + 1 : Nat) : Int)) (fun k => ?_) (ih (i + 1) _ (by omega) (by omega) ?_)
      · rw [impl_joined.l0, if_pos (by omega), if_pos (by omega), if_pos (by omega), rd_nat]
        unfold strconv_Itoa.f
        rw [if_pos (by omega), Option.bind_some, if_pos (by rw [ha, List.length_map, List.length_take]; omega), wrap_next hil (by omega)]
        rfl
      · rw [ha, List.take_add_one, List.map_append, List.getD_eq_getElem?_getD, List.getElem?_eq_getElem hil]
        rfl
  have h := key l.length 0 [] (by omega) (by omega) (by simp)
  unfold impl_joined.f
  exact h

theorem specGroup (n : Int) : spec_IsGroup.f n = some (decide (n = 3 ∨ n = 5)) := by
  unfold spec_IsGroup.f
  by_cases h : n = 3
  · rw [if_pos h]; simp [h]
  · rw [if_neg h]; by_cases h5 : n = 5 <;> simp [h, h5]

theorem l1In_f (a b c : Int) : spec_l1In.f a b c = some (Mine.inB b c a) := by
  unfold spec_l1In.f Mine.inB
  by_cases h : a ≥ b
  · rw [if_pos h]; simp [show b ≤ a from h]
  · rw [if_neg h]; simp [show ¬ b ≤ a from h]

theorem l1All_l (xs : List Int) (lo hi : Int) (hm : xs.length ≤ 9223372036854775807) : ∀ (d i : Nat), xs.length - i = d → Ev (fun k => spec_l1All.l0 k lo hi xs (xs.length : Int) (i : Int)) (!Mine.anyP (Mine.outB lo hi) (xs.drop i)) := by
  intro d
  induction d with
  | zero =>
    intro i hd
    rw [List.drop_eq_nil_of_le (by omega)]
    exact Ev.step (f := fun _ => some true) (fun k => by simp only [spec_l1All.l0]; rw [if_neg (by omega)]) (Ev.now _)
  | succ d ih =>
    intro i hd
    have hlt : i < xs.length := by omega
    rw [Mine.drop_at xs 0 i hlt, Mine.anyP_cons]
    have body : ∀ k, spec_l1All.l0 (k + 1) lo hi xs (xs.length : Int) (i : Int) = if Mine.inB lo hi (xs.getD i 0) = true then spec_l1All.l0 k lo hi xs (xs.length : Int) ((i + 1 : Nat) : Int) else some false := by
      intro k
      simp only [spec_l1All.l0]
      rw [if_pos (by omega), if_pos (by omega), if_pos (by omega), rd_nat, l1In_f, Option.bind_some, wrap_next hlt hm]
    cases hb : Mine.inB lo hi (xs.getD i 0) with
    | true =>
      refine Ev.step (f := fun k => spec_l1All.l0 k lo hi xs (xs.length : Int) ((i + 1 : Nat) : Int)) (fun k => by rw [body, if_pos hb]) ?_
      have : Mine.outB lo hi (xs.getD i 0) = false := by unfold Mine.outB; rw [hb]; rfl
      rw [this, Bool.false_or]
      exact ih (i + 1) (by omega)
    | false =>
      refine Ev.step (f := fun _ => some false) (fun k => by rw [body, if_neg (by rw [hb]; simp)]) ?_
      have : Mine.outB lo hi (xs.getD i 0) = true := by unfold Mine.outB; rw [hb]; rfl
      rw [this, Bool.true_or]
      exact Ev.now _
theorem l1All_ev (xs : List Int) (lo hi : Int) (hm : xs.length ≤ 9223372036854775807) : Ev (fun k => spec_l1All.f k xs lo hi) (!Mine.anyP (Mine.outB lo hi) xs) := l1All_l xs lo hi hm _ 0 rfl

def goodAttrB (n s : Int) (l : List Int) : Bool := decide (n = 3 ∨ n = 5) && (Mine.inB 0 999 s && (decide ((l.length : Int) = n) && !Mine.anyP (Mine.outB 0 6) l))
theorem l3Attr_ev (n s : Int) (l : List Int) (hm : l.length ≤ 9223372036854775807) : Ev (fun k => spec_l3Attr.f k n s l) (Mine.inB 0 999 s && (decide ((l.length : Int) = n) && !Mine.anyP (Mine.outB 0 6) l)) := by
  unfold spec_l3Attr.f
  cases hs : Mine.inB 0 999 s with
  | false => exact Ev.congr (f := fun _ => some false) (fun k => by rw [l1In_f, Option.bind_some, hs, if_neg (by simp)]) (Ev.now _)
  | true =>
    by_cases hl : (l.length : Int) = n
    · refine Ev.congr (f := fun k => (spec_l1All.f k l 0 6).bind fun t => some t) (fun k => by rw [l1In_f, Option.bind_some, hs, if_pos rfl, if_pos hl]) ?_
      rw [decide_eq_true hl, Bool.true_and, Bool.true_and]
      exact Ev.bind (l1All_ev l 0 6 hm) (Ev.now _)
    · rw [decide_eq_false hl, Bool.false_and, Bool.and_false]
      exact Ev.congr (f := fun _ => some false) (fun k => by rw [l1In_f, Option.bind_some, hs, if_pos rfl, if_neg hl]) (Ev.now _)

theorem specGoodAttr_ev (n s : Int) (l : List Int) (hm : l.length ≤ 9223372036854775807) : Ev (fun k => spec_GoodAttr.f k n s l) (goodAttrB n s l) := by
  unfold spec_GoodAttr.f goodAttrB
  cases hg : decide (n = 3 ∨ n = 5) with
  | false => exact Ev.congr (f := fun _ => some false) (fun k => by rw [specGroup, Option.bind_some, hg, if_neg (by simp)]) (Ev.now _)
  | true =>
    refine Ev.congr (f := fun k => (spec_l3Attr.f k n s l).bind fun t => some t) (fun k => by rw [specGroup, Option.bind_some, hg, if_pos rfl]) ?_
    exact Ev.bind (l3Attr_ev n s l hm) (Ev.now _)

/-- An attribute's text. -/
def attrT (s : Int) (l : List Int) : ByteArray := (numB s ++ (⟨#[58]⟩ : ByteArray)) ++ joinB (⟨#[44]⟩ : ByteArray) l
theorem goodAttr_in {n s : Int} {l : List Int} (h : goodAttrB n s l = true) : (0 ≤ s ∧ s ≤ 999) ∧ l.length ≤ 5 ∧ ∀ x ∈ l, 0 ≤ x ∧ x ≤ 1000000 := by
  unfold goodAttrB at h
  simp only [Bool.and_eq_true, decide_eq_true_eq, Mine.inB_iff, Bool.not_eq_true'] at h
  obtain ⟨h1, h2, h3, h4⟩ := h
  refine ⟨h2, by omega, fun x hx => ?_⟩
  unfold Mine.anyP at h4
  have h5 := List.any_eq_false.1 h4 x hx
  rw [Bool.not_eq_true, Mine.outB_false] at h5
  omega
theorem joinB_snoc (l : List Int) (x : Int) (h : l ≠ []) : joinB (⟨#[44]⟩ : ByteArray) (l ++ [x]) = (joinB (⟨#[44]⟩ : ByteArray) l ++ (⟨#[44]⟩ : ByteArray)) ++ numB x := by
  refine ba_ext ?_
  cases l with
  | nil => exact absurd rfl h
  | cons y r =>
    simp only [ba_append, joinB_data, numB_data, List.cons_append, List.map_cons, List.map_append, List.map_nil, Go.Lib.join_cons, Go.Lib.joinTail, List.flatten_append, List.flatten_cons, List.flatten_nil, List.append_nil, List.append_assoc]
theorem joinB_one (x : Int) : joinB (⟨#[44]⟩ : ByteArray) [x] = (⟨#[]⟩ : ByteArray) ++ numB x := by
  refine ba_ext ?_
  rw [ba_append, joinB_data, numB_data, List.map_cons, List.map_nil, Go.Lib.join_one]
  rfl
theorem l3ListEv (l : List Int) (hn : l.length ≤ 5) (hl : ∀ x ∈ l, 0 ≤ x ∧ x ≤ 1000000) : Ev (fun k => spec_l3List.f k l) (joinB (⟨#[44]⟩ : ByteArray) l) := by
  have m1 : (⟨#[44]⟩ : ByteArray).size = 1 := rfl
  have key : ∀ (n i : Nat), l.length - i = n → i ≤ l.length → Ev (fun k => spec_l3List.l0 k (joinB (⟨#[44]⟩ : ByteArray) (l.take i)) l (l.length : Int) (i : Int)) (joinB (⟨#[44]⟩ : ByteArray) l) := by
    intro n
    induction n with
    | zero =>
      intro i hi hi2
      obtain rfl : i = l.length := by omega
      rw [List.take_of_length_le (Nat.le_refl _)]
      exact Ev.step (f := fun k => some _) (fun k => by rw [spec_l3List.l0, if_neg (by omega)]) (Ev.now _)
    | succ n ih =>
      intro i hi hi2
      have hil : i < l.length := by omega
      have hx := hl (l.getD i 0) (by rw [List.getD_eq_getElem?_getD, List.getElem?_eq_getElem hil]; exact List.getElem_mem hil)
      have ht : l.take (i + 1) = l.take i ++ [l.getD i 0] := by
        rw [List.take_add_one, List.getD_eq_getElem?_getD, List.getElem?_eq_getElem hil]
        rfl
      have hz := joinB_le (⟨#[44]⟩ : ByteArray) (l.take i) (fun x hx => hl x (List.mem_of_mem_take hx))
      have hz2 : (l.take i).length * (21 + (⟨#[44]⟩ : ByteArray).size) ≤ 5 * 22 := Nat.mul_le_mul (by rw [List.length_take]; omega) (by rw [m1]; omega)
      have hs := numB_size (l.getD i 0) (by omega) (by omega)
      have hnext := ih (i + 1) (by omega) (by omega)
      by_cases h0 : i = 0
      · subst h0
        rw [ht, List.take_zero, List.nil_append, joinB_one] at hnext
        refine Ev.step (f := fun k => (spec_l1Num.f k (l.getD 0 0)).bind fun t => if (⟨#[]⟩ : ByteArray).size + t.size ≤ 9223372036854775807 then spec_l3List.l0 k ((⟨#[]⟩ : ByteArray) ++ t) l (l.length : Int) ((0 + 1 : Nat) : Int) else none) (fun k => ?_) (Ev.bind (numEv _ (by omega) (by omega)) ?_)
        · rw [spec_l3List.l0, if_pos (by omega), if_pos (by omega), if_pos (by omega), if_neg (by omega), rd_nat, wrap_next hil (by omega)]
          rfl
        · have m0 : (⟨#[]⟩ : ByteArray).size = 0 := rfl
          simp only [m0]
          simp (disch := omega) only [if_pos]
          exact hnext
      · rw [ht, joinB_snoc _ _ (by intro e; have := congrArg List.length e; rw [List.length_take, List.length_nil] at this; omega)] at hnext
        generalize hA : joinB (⟨#[44]⟩ : ByteArray) (l.take i) = A at hnext hz ⊢
        refine Ev.step (f := fun k => (spec_l1Num.f k (l.getD i 0)).bind fun t => if (A ++ (⟨#[44]⟩ : ByteArray)).size + t.size ≤ 9223372036854775807 then spec_l3List.l0 k ((A ++ (⟨#[44]⟩ : ByteArray)) ++ t) l (l.length : Int) ((i + 1 : Nat) : Int) else none) (fun k => ?_) (Ev.bind (numEv _ (by omega) (by omega)) ?_)
        · rw [spec_l3List.l0, if_pos (by omega), if_pos (by omega), if_pos (by omega), if_pos (by omega), if_pos (by omega), rd_nat, wrap_next hil (by omega)]
        · simp only [ByteArray.size_append, m1]
          simp (disch := omega) only [if_pos]
          exact hnext
  have h := key l.length 0 (by omega) (by omega)
  unfold spec_l3List.f
  exact h
theorem specAttrText_ev {n s : Int} {l : List Int} (h : goodAttrB n s l = true) : Ev (fun k => spec_l3Text.f k s l) (attrT s l) := by
  obtain ⟨h1, h2, h3⟩ := goodAttr_in h
  have s1 := numB_size s (by omega) (by omega)
  have hz := joinB_le (⟨#[44]⟩ : ByteArray) l h3
  have m1 : (⟨#[44]⟩ : ByteArray).size = 1 := rfl
  have m2 : (⟨#[58]⟩ : ByteArray).size = 1 := rfl
  rw [m1] at hz
  unfold spec_l3Text.f attrT
  refine Ev.bind (numEv s (by omega) (by omega)) ?_
  simp (disch := omega) only [if_pos]
  refine Ev.bind (l3ListEv l h2 h3) ?_
  simp only [ByteArray.size_append, m2]
  simp (disch := omega) only [if_pos]
  exact Ev.now _
theorem implAttrText_ev {n s : Int} {l : List Int} (h : goodAttrB n s l = true) : Ev (fun k => impl_attrText.f k s l) (attrT s l) := by
  obtain ⟨h1, h2, h3⟩ := goodAttr_in h
  have s1 := numB_size s (by omega) (by omega)
  have hz := joinB_le (⟨#[44]⟩ : ByteArray) l h3
  have m1 : (⟨#[44]⟩ : ByteArray).size = 1 := rfl
  have m2 : (⟨#[58]⟩ : ByteArray).size = 1 := rfl
  rw [m1] at hz
  have hI : strconv_Itoa.f s = some (numB s) := by unfold strconv_Itoa.f; rw [if_pos (by omega)]; rfl
  unfold impl_attrText.f attrT
  simp only [hI, Option.bind_some]
  simp (disch := omega) only [if_pos]
  refine Ev.bind (joinedEv _ l (by decide) (by omega) h3) ?_
  simp only [ByteArray.size_append, m2]
  simp (disch := omega) only [if_pos]
  exact Ev.now _
def attrTextR (n s : Int) (l : List Int) : ByteArray × Bool := if goodAttrB n s l = true then (attrT s l, true) else ((⟨#[]⟩ : ByteArray), false)
theorem specAttrTextR_ev (n s : Int) (l : List Int) (hm : l.length ≤ 9223372036854775807) : Ev (fun k => spec_AttrText.f k n s l) (attrTextR n s l) := by
  unfold spec_AttrText.f attrTextR
  refine Ev.bind (specGoodAttr_ev n s l hm) ?_
  cases hg : goodAttrB n s l with
  | false => simpa using Ev.now _
  | true =>
    simp only [if_true]
    exact Ev.bind (specAttrText_ev hg) (Ev.now _)
theorem implAttrTextR_ev (n s : Int) (l : List Int) : Ev (fun k => impl_AttrText.f k n s l) (attrTextR n s l) := by
  unfold impl_AttrText.f attrTextR
  rw [show impl_GoodAttr.f n s l = some (goodAttrB n s l) from rfl]
  simp only [Option.bind_some]
  cases hg : goodAttrB n s l with
  | false => simpa using Ev.now _
  | true =>
    simp only [if_true]
    exact Ev.bind (implAttrText_ev hg) (Ev.now _)

theorem szIntS_f (l : List Int) (a : Int) (h0 : 0 ≤ a) (h1 : a ≤ 1048576) (hl : l.length ≤ 9223372036854775807) : laws_szIntS.f l a = some (if (l.length : Int) ≤ a then a - (l.length : Int) else -1) := by
  have hw : wrap64 (a - (l.length : Int)) = a - (l.length : Int) := by unfold wrap64; omega
  unfold laws_szIntS.f
  rw [hw]
  by_cases h : (l.length : Int) ≤ a
  · rw [if_neg (by omega), if_pos h]
  · rw [if_pos (by omega), if_neg h]

theorem szAttr_f (s : Int) (l : List Int) (a : Int) (h0 : 0 ≤ a) (h1 : a ≤ 1048576) (hl : l.length ≤ 9223372036854775807) : laws_szAttr.f s l a = some (if (l.length : Int) ≤ a then a - (l.length : Int) else -1) := by
  unfold laws_szAttr.f
  rw [szIntS_f l a h0 h1 hl, Option.bind_some]
  by_cases h : (l.length : Int) ≤ a
  · rw [if_pos h, if_neg (by omega)]
  · rw [if_neg h, if_pos (by omega)]

theorem toIntS_l (xs : List Int) (hm : xs.length ≤ 9223372036854775807) : ∀ (d i : Nat) (acc : List Int), xs.length - i = d → i ≤ xs.length → acc.length = xs.length → acc.take i = xs.take i → Ev (fun k => laws_toIntS.l0 k xs acc (i : Int)) xs := by
  intro d
  induction d with
  | zero =>
    intro i acc hd hi hl ht
    have e : acc = xs := Mine.take_all (i := i) (by omega) hl ht
    exact Ev.step (f := fun _ => some xs) (fun k => by simp only [laws_toIntS.l0]; rw [if_neg (by omega), e]) (Ev.now _)
  | succ d ih =>
    intro i acc hd hi hl ht
    refine Ev.step (f := fun k => laws_toIntS.l0 k xs (acc.set i (xs.getD i 0)) ((i + 1 : Nat) : Int)) (fun k => ?_) (ih (i + 1) _ (by omega) (by omega) (by simpa using hl) (Mine.take_set xs acc 0 i (by omega) hl ht))
    simp only [laws_toIntS.l0]
    rw [if_pos (by omega), if_pos (by omega), if_pos (by omega), wrap_next (n := xs.length) (by omega) hm, rd_nat, Int.toNat_natCast]
/-- A copy of numbers. -/
theorem toIntS_ev (xs : List Int) (hm : xs.length ≤ 1048576) : Ev (fun k => laws_toIntS.f k xs) xs := by
  refine Ev.congr (f := fun k => laws_toIntS.l0 k xs (List.replicate xs.length 0) ((0 : Nat) : Int)) (fun k => ?_) (toIntS_l xs (by omega) _ 0 _ rfl (by omega) (by simp) (by simp))
  unfold laws_toIntS.f
  rw [if_pos (by omega), if_pos (by omega)]
  simp

theorem toAttr_ev (s : Int) (l : List Int) (hm : l.length ≤ 1048576) : Ev (fun k => laws_toAttr.f k s l) (s, l) := Ev.bind (toIntS_ev l hm) (Ev.now _)

theorem eqIntS_l (xs : List Int) (hm : xs.length ≤ 9223372036854775807) : ∀ (d i : Nat), xs.length - i = d → Ev (fun k => laws_eqIntS.l0 k xs xs (i : Int)) true := by
  intro d
  induction d with
  | zero => intro i hd; exact Ev.step (f := fun _ => some true) (fun k => by simp only [laws_eqIntS.l0]; rw [if_neg (by omega)]) (Ev.now _)
  | succ d ih =>
    intro i hd
    refine Ev.step (f := fun k => laws_eqIntS.l0 k xs xs ((i + 1 : Nat) : Int)) (fun k => ?_) (ih (i + 1) (by omega))
    simp only [laws_eqIntS.l0]
    rw [if_pos (by omega), if_pos (by omega), if_pos (by omega), if_pos trivial, wrap_next (n := xs.length) (by omega) hm]
/-- Numbers are the same as themselves. -/
theorem eqIntS_ev (xs : List Int) (hm : xs.length ≤ 9223372036854775807) : Ev (fun k => laws_eqIntS.f k xs xs) true := by
  refine Ev.congr (f := fun k => laws_eqIntS.l0 k xs xs ((0 : Nat) : Int)) (fun k => ?_) (eqIntS_l xs hm _ 0 rfl)
  unfold laws_eqIntS.f
  rw [if_pos rfl]
  rfl

theorem eqAttr_ev (s : Int) (l : List Int) (hm : l.length ≤ 9223372036854775807) : Ev (fun k => laws_eqAttr.f k s l s l) true := by
  unfold laws_eqAttr.f
  refine Ev.congr (f := fun k => (laws_eqIntS.f k l l).bind fun t => if t = true then some true else some false) (fun k => by rw [if_pos rfl]) (Ev.bind (eqIntS_ev l hm) (Ev.now _))

theorem FnExactAttrText : laws_FnExactAttrText.Pure := by
  rintro n ⟨s, l⟩ _ ⟨_, hl, _⟩
  dsimp only at hl ⊢
  by_cases h1 : (l.length : Int) ≤ 1048576
  · have ht := toAttr_ev s l (by omega)
    have hs := specAttrTextR_ev n s l hl
    have hi := implAttrTextR_ev n s l
    have hq := eqAttr_ev s l hl
    generalize attrTextR n s l = r at hs hi
    obtain ⟨x, y⟩ := r
    refine Ev.rounds (g := fun k => laws_FnExactAttrText.f k n s l) ?_
    unfold laws_FnExactAttrText.f
    simp only [szAttr_f s l _ (show (0 : Int) ≤ 1048576 by omega) (by omega) hl, if_pos h1, Option.bind_some, if_neg (show ¬ (1048576 - (l.length : Int)) < 0 by omega)]
    refine Ev.bind ht (Ev.bind hs (Ev.bind ht (Ev.bind hi ?_)))
    simp only [if_true, bne_self_eq_false]
    refine Ev.step (fun k => by simp only [laws_FnExactAttrText.j0]; rw [if_neg (by simp)]) (Ev.bind ht (Ev.bind hq ?_))
    simpa using Ev.now true
  · refine ⟨0, ?_⟩
    unfold laws_FnExactAttrText.f
    rw [szAttr_f s l _ (by omega) (by omega) hl, if_neg h1, Option.bind_some, if_pos (by omega)]

end Go.Proofs.YtmknjfnhfcljcaaDoor.Pure
