/- The law FnExactReadAttr holds, for every input. -/
import Derived.Test.YtmknjfnhfcljcaaDoorQFnExactReadAttrx4
import Derived.Test.YtmknjfnhfcljcaaDoorMine
namespace Go.Proofs.YtmknjfnhfcljcaaDoor.Pure
open Go.RowKit Go.Proofs.YtmknjfnhfcljcaaDoor.QFnExactReadAttr Go.Proofs.YtmknjfnhfcljcaaDoorW.PrintWords Go.Proofs.YtmknjfnhfcljcaaDoorW.PrintLast Go.Proofs.YtmknjfnhfcljcaaDoorW.PrintMore
set_option linter.unusedVariables false
set_option linter.unusedSimpArgs false

theorem wrap_next {i : Nat} {n : Nat} (h : i < n) (hn : n ≤ 9223372036854775807) : wrap64 ((i : Int) + 1) = ((i + 1 : Nat) : Int) := by
  unfold wrap64
  omega
theorem rd_nat (l : List Int) (i : Nat) : rd l (i : Int) = l.getD i 0 := by unfold rd; rw [Int.toNat_natCast]
theorem wrap_small {x : Int} (h0 : -9223372036854775808 ≤ x) (h1 : x ≤ 9223372036854775807) : wrap64 x = x := by unfold wrap64; omega
theorem Ev.const {α : Type} {o : Option α} {a : α} (h : o = some a) : Ev (fun _ => o) a := ⟨0, fun _ _ => h⟩
theorem Ev.map {α β : Type} {g : Nat → Option α} {a : α} (h : Ev g a) (f : α → β) : Ev (fun k => (g k).bind fun t => some (f t)) (f a) := by
  obtain ⟨K, h⟩ := h
  exact ⟨K, fun k hk => by show (g k).bind _ = _; rw [h k hk, Option.bind_some]⟩
/-- A loop over a list's elements that ends at the first hit. -/
theorem loop_any {α ρ : Type} (F : Nat → Int → Option ρ) (xs : List α) (d : α) (p : α → Bool) (hit miss : ρ)
    (hs : ∀ i, i < xs.length → (p (xs.getD i d) = true → Ev (fun k => F k (i : Int)) hit) ∧ (p (xs.getD i d) = false → ∀ r, Ev (fun k => F k ((i + 1 : Nat) : Int)) r → Ev (fun k => F k (i : Int)) r))
    (he : Mine.anyP p xs = false → Ev (fun k => F k (xs.length : Int)) miss) : Ev (fun k => F k 0) (if Mine.anyP p xs = true then hit else miss) := by
  have key : ∀ (n i : Nat), xs.length - i = n → i ≤ xs.length → Mine.anyP p (xs.take i) = false → Ev (fun k => F k (i : Int)) (if Mine.anyP p (xs.drop i) = true then hit else miss) := by
    intro n
    induction n with
    | zero =>
      intro i hn hi hb
      obtain rfl : i = xs.length := by omega
      rw [List.drop_eq_nil_of_le (Nat.le_refl _)]
      rw [List.take_of_length_le (Nat.le_refl _)] at hb
      simpa [Mine.anyP] using he hb
    | succ n ih =>
      intro i hn hi hb
      rw [Mine.drop_at xs d i (by omega), Mine.anyP_cons]
      cases hp : p (xs.getD i d) with
      | true => simpa using (hs i (by omega)).1 hp
      | false =>
        have hb' : Mine.anyP p (xs.take (i + 1)) = false := by
          have e : xs.take (i + 1) = xs.take i ++ [xs.getD i d] := by
            rw [List.take_add_one, List.getD_eq_getElem?_getD, List.getElem?_eq_getElem (show i < xs.length by omega)]; rfl
          rw [e]
          unfold Mine.anyP at hb ⊢
          rw [List.any_append, hb, List.any_cons, hp]
          rfl
        simpa using (hs i (by omega)).2 hp _ (ih (i + 1) (by omega) (by omega) hb')
  simpa using key xs.length 0 (by omega) (by omega) (by simp [Mine.anyP])
/-- What a loop over a list's elements comes to: a state that goes on, or a result. -/
def scan {σ α ρ : Type} (step : α → σ → Sum σ ρ) (fin : σ → ρ) : List α → σ → ρ
  | [], s => fin s
  | x :: xs, s => match step x s with
    | .inl s' => scan step fin xs s'
    | .inr r => r
theorem loop_scan {σ α ρ : Type} (F : Nat → σ → Int → Option ρ) (xs : List α) (d : α) (step : α → σ → Sum σ ρ) (fin : σ → ρ) (P : Nat → σ → Prop)
    (hs : ∀ (i : Nat) (s : σ), i < xs.length → P i s → (∀ s', step (xs.getD i d) s = .inl s' → P (i + 1) s' ∧ ∀ r, Ev (fun k => F k s' ((i + 1 : Nat) : Int)) r → Ev (fun k => F k s (i : Int)) r) ∧ (∀ r, step (xs.getD i d) s = .inr r → Ev (fun k => F k s (i : Int)) r))
    (he : ∀ s, P xs.length s → Ev (fun k => F k s (xs.length : Int)) (fin s)) (s : σ) (h0 : P 0 s) : Ev (fun k => F k s 0) (scan step fin xs s) := by
  have key : ∀ (n i : Nat) (s : σ), xs.length - i = n → i ≤ xs.length → P i s → Ev (fun k => F k s (i : Int)) (scan step fin (xs.drop i) s) := by
    intro n
    induction n with
    | zero =>
      intro i s hn hi hp
      obtain rfl : i = xs.length := by omega
      rw [List.drop_eq_nil_of_le (Nat.le_refl _)]
      exact he s hp
    | succ n ih =>
      intro i s hn hi hp
      rw [Mine.drop_at xs d i (by omega), scan]
      cases hst : step (xs.getD i d) s with
      | inl s' => exact ((hs i s (by omega) hp).1 s' hst).2 _ (ih (i + 1) s' (by omega) (by omega) ((hs i s (by omega) hp).1 s' hst).1)
      | inr r => exact (hs i s (by omega) hp).2 r hst
  simpa using key xs.length 0 s (by omega) (by omega) h0

theorem ba_ext {a b : ByteArray} (h : a.data.toList = b.data.toList) : a = b := by
  cases a; cases b
  simpa using h
theorem ba_append (a b : ByteArray) : (a ++ b).data.toList = a.data.toList ++ b.data.toList := by simp [ByteArray.data_append]
theorem ba_size (a : ByteArray) : a.size = a.data.toList.length := by obtain ⟨⟨l⟩⟩ := a; rfl

/-- Bytes cut at each c; cur: what stands before. -/
def cutL (c : UInt8) : List UInt8 → List UInt8 → List (List UInt8)
  | cur, [] => [cur]
  | cur, x :: r => if x = c then cur :: cutL c [] r else cutL c (cur ++ [x]) r
def mkB (l : List UInt8) : ByteArray := ⟨l.toArray⟩
theorem mkB_data (l : List UInt8) : (mkB l).data.toList = l := rfl
theorem mkB_self (s : ByteArray) : mkB s.data.toList = s := ba_ext rfl
theorem cutL_none (c : UInt8) : ∀ (l cur : List UInt8), (∀ x ∈ l, x ≠ c) → cutL c cur l = [cur ++ l]
  | [], cur, _ => by rw [cutL, List.append_nil]
  | x :: r, cur, h => by
    rw [cutL, if_neg (h x (by simp)), cutL_none c r _ (fun y hy => h y (by simp [hy])), List.append_assoc]
    rfl
theorem cutL_hit (c : UInt8) (b : List UInt8) : ∀ (l cur : List UInt8), (∀ x ∈ l, x ≠ c) → cutL c cur (l ++ c :: b) = (cur ++ l) :: cutL c [] b
  | [], cur, _ => by rw [List.nil_append, cutL, if_pos rfl, List.append_nil]
  | x :: r, cur, h => by
    rw [List.cons_append, cutL, if_neg (h x (by simp)), cutL_hit c b r _ (fun y hy => h y (by simp [hy])), List.append_assoc]
    rfl
theorem cutL_ne (c : UInt8) : ∀ (l cur : List UInt8), cutL c cur l ≠ []
  | [], cur => by rw [cutL]; simp
  | x :: r, cur => by
    rw [cutL]
    split
    · simp
    · exact cutL_ne c r _
theorem bt_data (s : ByteArray) (i : Nat) (h : i < s.size) : bt s (i : Int) = ((s.data.toList.getD i 0).toNat : Int) := by
  have h2 : i < s.data.toList.length := by rw [← ba_size]; exact h
  unfold bt
  rw [Int.toNat_natCast, dif_pos h, List.getD_eq_getElem?_getD, List.getElem?_eq_getElem h2]
  simp only [Option.getD_some, Array.getElem_toList]
  rfl
theorem drop_get (L : List UInt8) (i : Nat) (h : i < L.length) : L.drop i = L.getD i 0 :: L.drop (i + 1) := by
  rw [List.getD_eq_getElem?_getD, List.getElem?_eq_getElem h, Option.getD_some, List.drop_eq_getElem_cons h]
theorem take_get (L : List UInt8) (i : Nat) (h : i < L.length) : L.take (i + 1) = L.take i ++ [L.getD i 0] := by
  rw [List.take_add_one, List.getD_eq_getElem?_getD, List.getElem?_eq_getElem h]
  rfl
/-- The reference's own cutting. -/
theorem l1SplitEv (s : ByteArray) (c : UInt8) (hs : s.size ≤ 1048576) : Ev (fun k => spec_l1Split.f k s ((c.toNat : Nat) : Int)) ((cutL c [] s.data.toList).map mkB) := by
  have key : ∀ (n i f : Nat) (out : List ByteArray), s.size - i = n → f ≤ i → i ≤ s.size → out.length ≤ i →
      Ev (fun k => spec_l1Split.l0 k s ((c.toNat : Nat) : Int) out (f : Int) (i : Int)) (out ++ (cutL c ((s.data.toList.take i).drop f) (s.data.toList.drop i)).map mkB) := by
    intro n
    induction n with
    | zero =>
      intro i f out hi hf hi2 ho
      obtain rfl : i = s.size := by omega
      have h1 : s.data.toList.drop s.size = [] := by rw [ba_size]; exact List.drop_length
      have h2 : s.data.toList.take s.size = s.data.toList := by rw [ba_size]; exact List.take_length
      rw [h1, h2, cutL, List.map_cons, List.map_nil]
      refine Ev.step (f := fun k => some _) (fun k => ?_) (Ev.now _)
      rw [spec_l1Split.l0, if_neg (by omega), if_pos (by omega), if_pos (by omega), if_pos (by omega), Int.toNat_natCast]
      congr 3
      refine ba_ext ?_
      rw [Go.Lib.extract_data, mkB_data, List.take_of_length_le (by rw [List.length_drop, ← ba_size]; omega)]
    | succ n ih =>
      intro i f out hi hf hi2 ho
      have hil : i < s.size := by omega
      have hil2 : i < s.data.toList.length := by rw [← ba_size]; exact hil
      rw [drop_get _ i hil2, cutL]
      have hb := bt_data s i hil
      by_cases hc : s.data.toList.getD i 0 = c
      · rw [if_pos hc]
        have h1 := ih (i + 1) (i + 1) (out ++ [s.extract f i]) (by omega) (by omega) (by omega) (by rw [List.length_append]; simp only [List.length_cons, List.length_nil]; omega)
        rw [show (s.data.toList.take (i + 1)).drop (i + 1) = [] by rw [List.drop_eq_nil_iff, List.length_take]; omega] at h1
        have h2 : mkB ((s.data.toList.take i).drop f) = s.extract f i := by
          refine ba_ext ?_
          rw [Go.Lib.extract_data, mkB_data, List.drop_take]
        rw [List.map_cons, h2, ← List.singleton_append, ← List.append_assoc]
        refine Ev.step (f := fun k => spec_l1Split.l0 k s ((c.toNat : Nat) : Int) (out ++ [s.extract f i]) ((i + 1 : Nat) : Int) ((i + 1 : Nat) : Int)) (fun k => ?_) h1
        rw [spec_l1Split.l0, if_pos (by omega), if_pos (by omega), if_pos (by rw [hb, hc]), if_pos (by omega), if_pos (by omega), if_pos (by omega), if_pos (by omega), Int.toNat_natCast, Int.toNat_natCast, wrap_small (by omega) (by omega)]
        rfl
      · rw [if_neg hc]
        have h1 := ih (i + 1) f out (by omega) (by omega) (by omega) (by omega)
        rw [take_get _ i hil2, List.drop_append_of_le_length (by rw [List.length_take]; omega)] at h1
        refine Ev.step (f := fun k => spec_l1Split.l0 k s ((c.toNat : Nat) : Int) out (f : Int) ((i + 1 : Nat) : Int)) (fun k => ?_) h1
        rw [spec_l1Split.l0, if_pos (by omega), if_pos (by omega), if_neg (fun e => hc ?_), wrap_small (by omega) (by omega)]
        · rfl
        · rw [hb] at e
          exact UInt8.toNat_inj.1 (by omega)
  have h := key s.size 0 0 [] (by omega) (by omega) (by omega) (by simp)
  unfold spec_l1Split.f
  simpa using h
theorem occ_at (L : List UInt8) (c : UInt8) (j : Nat) (h : j < L.length) : Go.Lib.occAt L [c] j = decide (L.getD j 0 = c) := by
  unfold Go.Lib.occAt
  rw [drop_get L j h]
  simp only [List.isPrefixOf, Bool.and_true]
  by_cases hc : L.getD j 0 = c
  · rw [decide_eq_true hc, hc]
    simp
  · rw [decide_eq_false hc]
    simp only [beq_eq_false_iff_ne]
    exact fun e => hc e.symm
/-- Where the first c stands. -/
theorem index_one (L : List UInt8) (c : UInt8) : (Go.Lib.index L [c] = -1 ∧ ∀ x ∈ L, x ≠ c) ∨ ∃ a b : List UInt8, L = a ++ c :: b ∧ (∀ x ∈ a, x ≠ c) ∧ Go.Lib.index L [c] = (a.length : Int) := by
  rcases Go.Lib.index_spec L [c] with ⟨h1, h2⟩ | ⟨i, h1, h2, h3, h4⟩
  · refine Or.inl ⟨h1, fun x hx e => ?_⟩
    obtain ⟨j, hj, rfl⟩ := List.getElem_of_mem hx
    have h3 := h2 j (by omega)
    rw [occ_at L c j hj, decide_eq_false_iff_not, List.getD_eq_getElem?_getD, List.getElem?_eq_getElem hj] at h3
    exact h3 e
  · have hil : i < L.length := by
      rcases Nat.lt_or_ge i L.length with h | h
      · exact h
      · unfold Go.Lib.occAt at h3
        rw [List.drop_eq_nil_of_le h] at h3
        simp at h3
    rw [occ_at L c i hil, decide_eq_true_eq] at h3
    refine Or.inr ⟨L.take i, L.drop (i + 1), ?_, fun x hx e => ?_, by rw [List.length_take, h1]; omega⟩
    · rw [← h3, ← drop_get L i hil, List.take_append_drop]
    · obtain ⟨j, hj, rfl⟩ := List.getElem_of_mem hx
      rw [List.length_take] at hj
      have h5 := h4 j (by omega)
      rw [occ_at L c j (by omega), decide_eq_false_iff_not, List.getD_eq_getElem?_getD, List.getElem?_eq_getElem (by omega)] at h5
      rw [List.getElem_take] at e
      exact h5 e
/-- The library's cutting is the same. -/
theorem splitB_cut (c : UInt8) : ∀ (n : Nat) (s : ByteArray), s.size ≤ n → Go.Lib.splitB ⟨#[c]⟩ 0 (Go.Lib.countB s ⟨#[c]⟩) s = (cutL c [] s.data.toList).map mkB := by
  have hsz : (⟨#[c]⟩ : ByteArray).size = 1 := rfl
  have hix : ∀ s : ByteArray, Go.Lib.indexB s ⟨#[c]⟩ = Go.Lib.index s.data.toList [c] := fun s => rfl
  intro n
  induction n with
  | zero =>
    intro s hs
    have h0 : s.data.toList = [] := List.length_eq_zero_iff.1 (by rw [← ba_size]; omega)
    have hm : Go.Lib.indexB s ⟨#[c]⟩ = -1 := by rw [hix, h0]; rfl
    rw [Go.Lib.splitB_miss _ _ _ _ hm, h0, cutL, List.map_cons, List.map_nil, ← h0, mkB_self]
  | succ n ih =>
    intro s hs
    rcases index_one s.data.toList c with ⟨h1, h2⟩ | ⟨a, b, h1, h2, h3⟩
    · rw [Go.Lib.splitB_miss _ _ _ _ ((hix s).trans h1), cutL_none c _ _ h2, List.nil_append, List.map_cons, List.map_nil, mkB_self]
    · have hi : Go.Lib.indexB s ⟨#[c]⟩ = (a.length : Int) := (hix s).trans h3
      have hb : (s.extract (a.length + 1) s.size).data.toList = b := by
        rw [Go.Lib.extract_data, ba_size, h1]
        rw [show a ++ c :: b = (a ++ [c]) ++ b by simp, List.drop_append_of_le_length (by simp), List.take_of_length_le (by simp only [List.length_append, List.length_cons, List.length_nil, List.length_drop]; omega)]
        simp
      have hl := congrArg List.length h1
      rw [← ba_size, List.length_append, List.length_cons] at hl
      have hs2 : (s.extract (a.length + 1) s.size).size ≤ n := by rw [ba_size, hb]; omega
      rw [Go.Lib.countB_hit s _ a.length (by rw [hsz]; omega) hi, Nat.add_comm, Go.Lib.splitB_hit _ _ _ _ _ hi, hsz, ih _ hs2, hb]
      conv => rhs; rw [h1, cutL_hit c b a [] h2]
      rw [List.map_cons]
      congr 1
      refine ba_ext ?_
      rw [Go.Lib.extract_from_zero, mkB_data, h1, Nat.add_zero]
      simp
theorem splitEv (s : ByteArray) (c : UInt8) (hs : s.size ≤ 1048576) : strings_Split.f s ⟨#[c]⟩ = some ((cutL c [] s.data.toList).map mkB) := by
  unfold strings_Split.f
  rw [if_pos ⟨by omega, Nat.le_refl 1⟩, splitB_cut c s.size s (Nat.le_refl _)]

theorem l1In_f (a b c : Int) : spec_l1In.f a b c = some (Mine.inB b c a) := by
  unfold spec_l1In.f Mine.inB
  by_cases h : a ≥ b
  · rw [if_pos h]; simp [show b ≤ a from h]
  · rw [if_neg h]; simp [show ¬ b ≤ a from h]

def isDig (x : UInt8) : Bool := decide (48 ≤ x.toNat ∧ x.toNat ≤ 57)
/-- A text's number. -/
def numL (l : List UInt8) : Nat := l.foldl (fun a x => 10 * a + (x.toNat - 48)) 0
/-- Is it a number of at most m digits in its one form? -/
def wordB (m : Nat) (l : List UInt8) : Bool := decide (1 ≤ l.length ∧ l.length ≤ m) && (l.all isDig && !(decide (l.getD 0 0 = 48) && decide (1 < l.length)))
def digR (m : Nat) (l : List UInt8) : Int := if wordB m l = true then (numL l : Int) else -1
theorem numL_snoc (l : List UInt8) (x : UInt8) : numL (l ++ [x]) = 10 * numL l + (x.toNat - 48) := by
  unfold numL
  rw [List.foldl_append]
  rfl
theorem numL_lt (l : List UInt8) : ∀ n, l.length = n → l.all isDig = true → numL l < 10 ^ n := by
  intro n
  induction n generalizing l with
  | zero =>
    intro h _
    obtain rfl := List.length_eq_zero_iff.1 h
    show 0 < 1
    omega
  | succ n ih =>
    intro h hd
    obtain ⟨r, x, rfl⟩ : ∃ r x, l = r ++ [x] := ⟨l.dropLast, l.getLast (by intro e; rw [e] at h; simp at h), (List.dropLast_concat_getLast _).symm⟩
    rw [List.length_append, List.length_cons, List.length_nil] at h
    rw [List.all_append, Bool.and_eq_true] at hd
    have h1 := ih r (by omega) hd.1
    have h2 : isDig x = true := by simpa using hd.2
    unfold isDig at h2
    rw [decide_eq_true_eq] at h2
    rw [numL_snoc, Nat.pow_succ]
    omega
theorem all_take (L : List UInt8) (i : Nat) (h : i < L.length) (h1 : (L.take i).all isDig = true) (h2 : isDig (L.getD i 0) = true) : (L.take (i + 1)).all isDig = true := by
  rw [take_get L i h, List.all_append, h1]
  simpa using h2
theorem not_all (L : List UInt8) (i : Nat) (h : i < L.length) (h2 : isDig (L.getD i 0) = false) : L.all isDig = false := by
  rw [List.all_eq_false]
  refine ⟨L.getD i 0, ?_, by rw [h2]; simp⟩
  rw [List.getD_eq_getElem?_getD, List.getElem?_eq_getElem h]
  exact List.getElem_mem h
theorem wordB_bad {m : Nat} {L : List UInt8} (h : L.all isDig = false) : digR m L = -1 := by unfold digR wordB; rw [h]; simp
/-- A digit more. -/
theorem dig_next {n : Nat} {x : UInt8} (hn : n < 1000000) (hx : isDig x = true) : wrap64 ((wrap64 (10 * (n : Int))) + ((((x.toNat : Nat) : Int) - 48) % 256)) = ((10 * n + (x.toNat - 48) : Nat) : Int) := by
  unfold isDig at hx
  rw [decide_eq_true_eq] at hx
  rw [wrap_small (x := 10 * (n : Int)) (by omega) (by omega), wrap_small (by omega) (by omega)]
  omega
theorem digitsEv (s : ByteArray) (m : Nat) (hm : 1 ≤ m) (hm6 : m ≤ 5) (hs : s.size ≤ 1048576) : Ev (fun k => impl_digits.f k s (m : Int)) (digR m s.data.toList) := by
  have hL : s.size = s.data.toList.length := ba_size s
  have hsL : ∀ i, i < s.size → bt s (i : Int) = ((s.data.toList.getD i 0).toNat : Int) := fun i h => bt_data s i h
  have hnil : s.toList = ([] : List UInt8) ↔ s.data.toList = [] := by rw [ByteArray.toList_eq]
  generalize hLe : s.data.toList = L at hL hsL hnil
  have key : ∀ (n i : Nat), s.size - i = n → i ≤ s.size → i ≤ m → (L.take i).all isDig = true → Ev (fun k => impl_digits.l0 k s (m : Int) ((numL (L.take i) : Nat) : Int) (s.size : Int) (i : Int)) (digR m L) := by
    intro n
    induction n with
    | zero =>
      intro i hi hi2 him hd
      obtain rfl : i = s.size := by omega
      have ht : L.take s.size = L := by rw [hL]; exact List.take_length
      rw [ht] at hd ⊢
      refine Ev.step (f := fun k => some (digR m L)) (fun k => ?_) (Ev.now _)
      rw [impl_digits.l0, if_neg (by omega)]
      by_cases h0 : s.size = 0
      · have hLn : L = [] := List.length_eq_zero_iff.1 (by omega)
        rw [if_pos (hnil.2 hLn)]
        unfold digR wordB
        rw [hLn]
        rfl
      · rw [if_neg (fun e => h0 (by have := hnil.1 e; rw [hL, this]; rfl)), if_pos (show (0 : Int) < (s.size : Int) by omega)]
        have hb0 := hsL 0 (by omega)
        by_cases hz : L.getD 0 0 = 48
        · rw [if_pos (show bt s 0 = 48 by rw [show (0 : Int) = ((0 : Nat) : Int) from rfl, hb0, hz]; rfl)]
          by_cases h1 : 1 < s.size
          · rw [if_pos (show (s.size : Int) > 1 by omega)]
            unfold digR wordB
            rw [decide_eq_true hz, decide_eq_true (show 1 < L.length by omega), hd]
            simp
          · rw [if_neg (show ¬ (s.size : Int) > 1 by omega)]
            unfold digR wordB
            rw [decide_eq_true (show 1 ≤ L.length ∧ L.length ≤ m by omega), decide_eq_false (show ¬ 1 < L.length by omega), hd]
            simp
        · have hz2 : ¬ bt s 0 = 48 := fun e => hz (by
            rw [show (0 : Int) = ((0 : Nat) : Int) from rfl, hb0] at e
            exact UInt8.toNat_inj.1 (by have : (48 : UInt8).toNat = 48 := rfl; omega))
          rw [if_neg hz2]
          unfold digR wordB
          rw [decide_eq_true (show 1 ≤ L.length ∧ L.length ≤ m by omega), decide_eq_false hz, hd]
          simp
    | succ n ih =>
      intro i hi hi2 him hd
      have hil : i < s.size := by omega
      have hb := hsL i hil
      cases hx : isDig (L.getD i 0) with
      | false =>
        rw [wordB_bad (not_all L i (by omega) hx)]
        unfold isDig at hx
        rw [decide_eq_false_iff_not] at hx
        refine Ev.step (f := fun k => some (-1)) (fun k => ?_) (Ev.now _)
        rw [impl_digits.l0, if_pos (by omega), if_pos (by omega), if_pos (by omega), hb]
        by_cases h1 : ((L.getD i 0).toNat : Int) < 48
        · rw [if_pos h1]
        · rw [if_neg h1, if_pos (by omega)]
      | true =>
        have hx2 := hx
        unfold isDig at hx2
        rw [decide_eq_true_eq] at hx2
        by_cases him2 : i < m
        · have hlt := numL_lt (L.take i) i (by rw [List.length_take]; omega) hd
          have hlt2 : 10 ^ i ≤ 10 ^ 5 := Nat.pow_le_pow_right (by omega) (by omega)
          have h1 := ih (i + 1) (by omega) (by omega) (by omega) (all_take L i (by omega) hd hx)
          rw [take_get L i (by omega), numL_snoc] at h1
          refine Ev.step (f := fun k => _) (fun k => ?_) h1
          rw [impl_digits.l0, if_pos (by omega), if_pos (by omega), if_pos (by omega), hb, if_neg (by omega), if_neg (by omega), if_neg (by omega), dig_next (by omega) hx, wrap_small (x := (i : Int) + 1) (by omega) (by omega)]
          rfl
        · have hbad : digR m L = -1 := by
            unfold digR wordB
            rw [decide_eq_false (show ¬ (1 ≤ L.length ∧ L.length ≤ m) by omega)]
            simp
          rw [hbad]
          refine Ev.step (f := fun k => some (-1)) (fun k => ?_) (Ev.now _)
          rw [impl_digits.l0, if_pos (by omega), if_pos (by omega), if_pos (by omega), hb, if_neg (by omega), if_neg (by omega), if_pos (by omega)]
  have h := key s.size 0 (by omega) (by omega) (by omega) (by simp)
  unfold impl_digits.f
  exact h
theorem l1ReadEv (s : ByteArray) : Ev (fun k => spec_l1Read.f k s) (digR 6 s.data.toList) := by
  have hL : s.size = s.data.toList.length := ba_size s
  have hsL : ∀ i, i < s.size → bt s (i : Int) = ((s.data.toList.getD i 0).toNat : Int) := fun i h => bt_data s i h
  generalize hLe : s.data.toList = L at hL hsL
  by_cases hsz : 1 ≤ s.size ∧ s.size ≤ 6
  · by_cases hz : L.getD 0 0 = 48 ∧ 1 < s.size
    · have hbad : digR 6 L = -1 := by
        unfold digR wordB
        rw [decide_eq_true hz.1, decide_eq_true (show 1 < L.length by omega)]
        simp
      rw [hbad]
      refine Ev.congr (f := fun k => spec_l1Read.j0 k s true) (fun k => ?_) (Ev.step (f := fun k => some (-1)) (fun k => by rw [spec_l1Read.j0, if_pos rfl]) (Ev.now _))
      unfold spec_l1Read.f
      rw [l1In_f, Option.bind_some, if_pos (Mine.inB_iff.2 (by omega)), if_pos (by omega), if_pos (show bt s 0 = 48 by rw [show (0 : Int) = ((0 : Nat) : Int) from rfl, hsL 0 (by omega), hz.1]; rfl), decide_eq_true (show (s.size : Int) > 1 by omega)]
    · have key : ∀ (n i : Nat), s.size - i = n → i ≤ s.size → (L.take i).all isDig = true → Ev (fun k => spec_l1Read.l0 k s ((numL (L.take i) : Nat) : Int) (i : Int)) (digR 6 L) := by
        intro n
        induction n with
        | zero =>
          intro i hi hi2 hd
          obtain rfl : i = s.size := by omega
          have ht : L.take s.size = L := by rw [hL]; exact List.take_length
          rw [ht] at hd ⊢
          refine Ev.step (f := fun k => some (digR 6 L)) (fun k => ?_) (Ev.now _)
          rw [spec_l1Read.l0, if_neg (by omega)]
          unfold digR wordB
          rw [decide_eq_true (show 1 ≤ L.length ∧ L.length ≤ 6 by omega), hd]
          by_cases h0 : L.getD 0 0 = 48
          · rw [decide_eq_true h0, decide_eq_false (show ¬ 1 < L.length by intro h; exact hz ⟨h0, by omega⟩)]
            simp
          · rw [decide_eq_false h0]
            simp
        | succ n ih =>
          intro i hi hi2 hd
          have hil : i < s.size := by omega
          have hb := hsL i hil
          cases hx : isDig (L.getD i 0) with
          | false =>
            rw [wordB_bad (not_all L i (by omega) hx)]
            unfold isDig at hx
            rw [decide_eq_false_iff_not] at hx
            refine Ev.step (f := fun k => some (-1)) (fun k => ?_) (Ev.now _)
            rw [spec_l1Read.l0, if_pos (by omega), if_pos (by omega), hb]
            by_cases h1 : ((L.getD i 0).toNat : Int) < 48
            · rw [if_pos h1]
            · rw [if_neg h1, if_pos (by omega)]
          | true =>
            have hx2 := hx
            unfold isDig at hx2
            rw [decide_eq_true_eq] at hx2
            have hlt := numL_lt (L.take i) i (by rw [List.length_take]; omega) hd
            have hlt2 : 10 ^ i ≤ 10 ^ 5 := Nat.pow_le_pow_right (by omega) (by omega)
            have h1 := ih (i + 1) (by omega) (by omega) (all_take L i (by omega) hd hx)
            rw [take_get L i (by omega), numL_snoc] at h1
            refine Ev.step (f := fun k => _) (fun k => ?_) h1
            rw [spec_l1Read.l0, if_pos (by omega), if_pos (by omega), hb, if_neg (by omega), if_neg (by omega), dig_next (by omega) hx, wrap_small (x := (i : Int) + 1) (by omega) (by omega)]
            rfl
      have h := key s.size 0 (by omega) (by omega) (by simp)
      refine Ev.congr (f := fun k => spec_l1Read.j0 k s false) (fun k => ?_) (Ev.step (f := fun k => spec_l1Read.l0 k s 0 0) (fun k => by rw [spec_l1Read.j0, if_neg (by simp)]) h)
      unfold spec_l1Read.f
      rw [l1In_f, Option.bind_some, if_pos (Mine.inB_iff.2 (by omega)), if_pos (by omega)]
      by_cases h0 : L.getD 0 0 = 48
      · rw [if_pos (show bt s 0 = 48 by rw [show (0 : Int) = ((0 : Nat) : Int) from rfl, hsL 0 (by omega), h0]; rfl), decide_eq_false (show ¬ (s.size : Int) > 1 by intro h; exact hz ⟨h0, by omega⟩)]
      · rw [if_neg (fun e => h0 (by
          rw [show (0 : Int) = ((0 : Nat) : Int) from rfl, hsL 0 (by omega)] at e
          exact UInt8.toNat_inj.1 (by have : (48 : UInt8).toNat = 48 := rfl; omega)))]
  · have hbad : digR 6 L = -1 := by
      unfold digR wordB
      rw [decide_eq_false (show ¬ (1 ≤ L.length ∧ L.length ≤ 6) by omega)]
      simp
    rw [hbad]
    refine Ev.congr (f := fun k => spec_l1Read.j0 k s true) (fun k => ?_) (Ev.step (f := fun k => some (-1)) (fun k => by rw [spec_l1Read.j0, if_pos rfl]) (Ev.now _))
    unfold spec_l1Read.f
    rw [l1In_f, Option.bind_some, if_neg (fun e => hsz (by have := Mine.inB_iff.1 e; omega))]
/-- More digits let in: the same for a shorter text. -/
theorem digR_le {m m2 : Nat} (h : m ≤ m2) (l : List UInt8) (hl : l.length ≤ m) : digR m l = digR m2 l := by
  unfold digR wordB
  by_cases h1 : 1 ≤ l.length
  · rw [decide_eq_true (show 1 ≤ l.length ∧ l.length ≤ m by omega), decide_eq_true (show 1 ≤ l.length ∧ l.length ≤ m2 by omega)]
  · rw [decide_eq_false (show ¬ (1 ≤ l.length ∧ l.length ≤ m) by omega), decide_eq_false (show ¬ (1 ≤ l.length ∧ l.length ≤ m2) by omega)]
theorem digR_long {m : Nat} {l : List UInt8} (h : m < l.length) : digR m l = -1 := by
  unfold digR wordB
  rw [decide_eq_false (show ¬ (1 ≤ l.length ∧ l.length ≤ m) by omega)]
  simp
theorem digR_neg {m : Nat} {l : List UInt8} : digR m l < 0 ↔ wordB m l = false := by
  unfold digR
  cases h : wordB m l with
  | true => simp
  | false => simp
theorem digR_pos {m : Nat} {l : List UInt8} (h : wordB m l = true) : digR m l = (numL l : Int) := by unfold digR; rw [if_pos h]

theorem within_f (a b c : Int) : impl_within.f a b c = some (Mine.inB b c a) := by
  unfold impl_within.f Mine.inB
  by_cases h : b ≤ a
  · rw [if_pos h]; simp [h]
  · rw [if_neg h]; simp [h]

theorem cutL_len (c : UInt8) : ∀ (l cur w : List UInt8), w ∈ cutL c cur l → w.length ≤ cur.length + l.length
  | [], cur, w, h => by
    rw [cutL, List.mem_singleton] at h
    subst h
    simp
  | x :: r, cur, w, h => by
    rw [cutL] at h
    split at h
    · rcases List.mem_cons.1 h with rfl | h
      · simp
      · have := cutL_len c r [] w h
        simp only [List.length_cons, List.length_nil] at this ⊢
        omega
    · have := cutL_len c r _ w h
      simp only [List.length_append, List.length_cons, List.length_nil] at this ⊢
      omega
theorem cutL_many (c : UInt8) : ∀ (l cur : List UInt8), (cutL c cur l).length ≤ l.length + 1
  | [], cur => by rw [cutL]; simp
  | x :: r, cur => by
    rw [cutL]
    split
    · have := cutL_many c r []
      simp only [List.length_cons]
      omega
    · have := cutL_many c r (cur ++ [x])
      simp only [List.length_cons]
      omega
theorem mkB_size (l : List UInt8) : (mkB l).size = l.length := by rw [ba_size, mkB_data]
theorem rdB (ws : List (List UInt8)) (i : Nat) (h : i < ws.length) : rdOf ByteArray.empty (ws.map mkB) (i : Int) = mkB (ws.getD i []) := by
  unfold rdOf
  rw [Int.toNat_natCast]
  simp [List.getD_eq_getElem?_getD, h]
theorem getD_mem_ {α : Type} (ws : List α) (d : α) (i : Nat) (h : i < ws.length) : ws.getD i d ∈ ws := by
  rw [List.getD_eq_getElem?_getD, List.getElem?_eq_getElem h]
  exact List.getElem_mem h
theorem take_next {α : Type} (ws : List α) (d : α) (i : Nat) (h : i < ws.length) : ws.take (i + 1) = ws.take i ++ [ws.getD i d] := by
  rw [List.take_add_one, List.getD_eq_getElem?_getD, List.getElem?_eq_getElem h]
  rfl
def numI (w : List UInt8) : Int := (numL w : Int)
/-- The numbers of words, and whether all are such. -/
def numsR (m : Nat) (ws : List (List UInt8)) : List Int × Bool := if ws.all (wordB m) = true then (ws.map numI, true) else ([], false)
theorem numbersEv (ws : List (List UInt8)) (m : Nat) (hm : 1 ≤ m) (hm5 : m ≤ 5) (hw : ∀ w ∈ ws, w.length ≤ 1048576) (hn : ws.length ≤ 1048577) : Ev (fun k => impl_numbers.f k (ws.map mkB) (m : Int)) (numsR m ws) := by
  have key : ∀ (n i : Nat), ws.length - i = n → i ≤ ws.length → (ws.take i).all (wordB m) = true → Ev (fun k => impl_numbers.l0 k (m : Int) ((ws.take i).map numI) (ws.map mkB) ((ws.map mkB).length : Int) (i : Int)) (numsR m ws) := by
    intro n
    induction n with
    | zero =>
      intro i hi hi2 hd
      obtain rfl : i = ws.length := by omega
      rw [List.take_length] at hd ⊢
      refine Ev.step (f := fun k => some (numsR m ws)) (fun k => ?_) (Ev.now _)
      rw [impl_numbers.l0, if_neg (by rw [List.length_map]; omega)]
      unfold numsR
      rw [if_pos hd]
    | succ n ih =>
      intro i hi hi2 hd
      have hil : i < ws.length := by omega
      have hdg := digitsEv (mkB (ws.getD i [])) m hm hm5 (by rw [mkB_size]; exact hw _ (getD_mem_ ws [] i hil))
      rw [mkB_data] at hdg
      refine Ev.step (f := fun k => (impl_digits.f k (mkB (ws.getD i [])) (m : Int)).bind fun t => if t < 0 then some ([], false) else if ((ws.take i).map numI).length < 17592186044416 then impl_numbers.l0 k (m : Int) ((ws.take i).map numI ++ [t]) (ws.map mkB) ((ws.map mkB).length : Int) ((i + 1 : Nat) : Int) else none) (fun k => ?_) (Ev.bind hdg ?_)
      · rw [impl_numbers.l0, if_pos (by rw [List.length_map]; omega), if_pos (by omega), if_pos (by rw [List.length_map]; omega), rdB ws i hil, wrap_small (by omega) (by omega)]
        rfl
      · cases hb : wordB m (ws.getD i []) with
        | false =>
          have hneg : digR m (ws.getD i []) < 0 := digR_neg.2 hb
          have hall : ws.all (wordB m) = false := by
            rw [List.all_eq_false]
            exact ⟨_, getD_mem_ ws [] i hil, by rw [hb]; simp⟩
          unfold numsR
          rw [hall]
          simp only [if_pos hneg]
          exact Ev.now _
        | true =>
          have hpos := digR_pos hb
          rw [hpos]
          simp only [if_neg (show ¬ ((numL (ws.getD i []) : Nat) : Int) < 0 by omega), if_pos (show ((ws.take i).map numI).length < 17592186044416 by rw [List.length_map, List.length_take]; omega)]
          have h1 := ih (i + 1) (by omega) (by omega) (by rw [take_next ws [] i hil, List.all_append, hd]; simpa using hb)
          rw [take_next ws [] i hil, List.map_append] at h1
          exact h1
  have h := key ws.length 0 (by omega) (by omega) (by simp)
  unfold impl_numbers.f
  exact h

theorem specGroup (n : Int) : spec_IsGroup.f n = some (decide (n = 3 ∨ n = 5)) := by
  unfold spec_IsGroup.f
  by_cases h : n = 3
  · rw [if_pos h]; simp [h]
  · rw [if_neg h]; by_cases h5 : n = 5 <;> simp [h, h5]

theorem l1All_l (xs : List Int) (lo hi : Int) (hm : xs.length ≤ 9223372036854775807) : ∀ (d i : Nat), xs.length - i = d → Ev (fun k => spec_l1All.l0 k lo hi xs (xs.length : Int) (i : Int)) (!Mine.anyP (Mine.outB lo hi) (xs.drop i)) := by
  intro d
  induction d with
  | zero =>
    intro i hd
    rw [List.drop_eq_nil_of_le (by omega)]
    exact Ev.step (f := fun _ => some true) (fun k => by simp only [spec_l1All.l0]; rw [if_neg (by omega)]) (Ev.now _)
  | succ d ih =>
    intro i hd
    have hlt : i < xs.length := by omega
    rw [Mine.drop_at xs 0 i hlt, Mine.anyP_cons]
    have body : ∀ k, spec_l1All.l0 (k + 1) lo hi xs (xs.length : Int) (i : Int) = if Mine.inB lo hi (xs.getD i 0) = true then spec_l1All.l0 k lo hi xs (xs.length : Int) ((i + 1 : Nat) : Int) else some false := by
      intro k
      simp only [spec_l1All.l0]
      rw [if_pos (by omega), if_pos (by omega), if_pos (by omega), rd_nat, l1In_f, Option.bind_some, wrap_next hlt hm]
    cases hb : Mine.inB lo hi (xs.getD i 0) with
    | true =>
      refine Ev.step (f := fun k => spec_l1All.l0 k lo hi xs (xs.length : Int) ((i + 1 : Nat) : Int)) (fun k => by rw [body, if_pos hb]) ?_
      have : Mine.outB lo hi (xs.getD i 0) = false := by unfold Mine.outB; rw [hb]; rfl
      rw [this, Bool.false_or]
      exact ih (i + 1) (by omega)
    | false =>
      refine Ev.step (f := fun _ => some false) (fun k => by rw [body, if_neg (by rw [hb]; simp)]) ?_
      have : Mine.outB lo hi (xs.getD i 0) = true := by unfold Mine.outB; rw [hb]; rfl
      rw [this, Bool.true_or]
      exact Ev.now _
theorem l1All_ev (xs : List Int) (lo hi : Int) (hm : xs.length ≤ 9223372036854775807) : Ev (fun k => spec_l1All.f k xs lo hi) (!Mine.anyP (Mine.outB lo hi) xs) := l1All_l xs lo hi hm _ 0 rfl

def goodAttrB (n s : Int) (l : List Int) : Bool := decide (n = 3 ∨ n = 5) && (Mine.inB 0 999 s && (decide ((l.length : Int) = n) && !Mine.anyP (Mine.outB 0 6) l))
theorem l3Attr_ev (n s : Int) (l : List Int) (hm : l.length ≤ 9223372036854775807) : Ev (fun k => spec_l3Attr.f k n s l) (Mine.inB 0 999 s && (decide ((l.length : Int) = n) && !Mine.anyP (Mine.outB 0 6) l)) := by
  unfold spec_l3Attr.f
  cases hs : Mine.inB 0 999 s with
  | false => exact Ev.congr (f := fun _ => some false) (fun k => by rw [l1In_f, Option.bind_some, hs, if_neg (by simp)]) (Ev.now _)
  | true =>
    by_cases hl : (l.length : Int) = n
    · refine Ev.congr (f := fun k => (spec_l1All.f k l 0 6).bind fun t => some t) (fun k => by rw [l1In_f, Option.bind_some, hs, if_pos rfl, if_pos hl]) ?_
      rw [decide_eq_true hl, Bool.true_and, Bool.true_and]
      exact Ev.bind (l1All_ev l 0 6 hm) (Ev.now _)
    · rw [decide_eq_false hl, Bool.false_and, Bool.and_false]
      exact Ev.congr (f := fun _ => some false) (fun k => by rw [l1In_f, Option.bind_some, hs, if_pos rfl, if_neg hl]) (Ev.now _)

theorem goodAttr_in {n s : Int} {l : List Int} (h : goodAttrB n s l = true) : (0 ≤ s ∧ s ≤ 999) ∧ l.length ≤ 5 ∧ ∀ x ∈ l, 0 ≤ x ∧ x ≤ 1000000 := by
  unfold goodAttrB at h
  simp only [Bool.and_eq_true, decide_eq_true_eq, Mine.inB_iff, Bool.not_eq_true'] at h
  obtain ⟨h1, h2, h3, h4⟩ := h
  refine ⟨h2, by omega, fun x hx => ?_⟩
  unfold Mine.anyP at h4
  have h5 := List.any_eq_false.1 h4 x hx
  rw [Bool.not_eq_true, Mine.outB_false] at h5
  omega

theorem specGoodAttr_ev (n s : Int) (l : List Int) (hm : l.length ≤ 9223372036854775807) : Ev (fun k => spec_GoodAttr.f k n s l) (goodAttrB n s l) := by
  unfold spec_GoodAttr.f goodAttrB
  cases hg : decide (n = 3 ∨ n = 5) with
  | false => exact Ev.congr (f := fun _ => some false) (fun k => by rw [specGroup, Option.bind_some, hg, if_neg (by simp)]) (Ev.now _)
  | true =>
    refine Ev.congr (f := fun k => (spec_l3Attr.f k n s l).bind fun t => some t) (fun k => by rw [specGroup, Option.bind_some, hg, if_pos rfl]) ?_
    exact Ev.bind (l3Attr_ev n s l hm) (Ev.now _)

/-- Words' numbers: -1 where a word is none. -/
def seqR (l : List UInt8) : Int := digR 6 l
theorem wordB_lead {m : Nat} {l : List UInt8} (h : wordB m l = true) : 1 ≤ l.length ∧ l.length ≤ m ∧ l.all isDig = true ∧ (1 < l.length → ¬ l.getD 0 0 = 48) := by
  unfold wordB at h
  simp only [Bool.and_eq_true, decide_eq_true_eq, Bool.not_eq_true', Bool.and_eq_false_iff, decide_eq_false_iff_not] at h
  refine ⟨h.1.1, h.1.2, h.2.1, fun h1 => ?_⟩
  rcases h.2.2 with h2 | h2
  · exact h2
  · exact absurd h1 h2
/-- A number without a nought ahead is as great as its digits are many. -/
theorem numL_ge : ∀ (n : Nat) (l : List UInt8), l.length = n + 1 → l.all isDig = true → ¬ l.getD 0 0 = 48 → 10 ^ n ≤ numL l := by
  intro n
  induction n with
  | zero =>
    intro l h hd hz
    match l, h with
    | [x], _ =>
      have h2 : isDig x = true := by simpa using hd
      unfold isDig at h2
      rw [decide_eq_true_eq] at h2
      have h3 : ¬ x.toNat = 48 := fun e => hz (UInt8.toNat_inj.1 (by rw [show ([x] : List UInt8).getD 0 0 = x from rfl, e]; rfl))
      show 1 ≤ 10 * 0 + (x.toNat - 48)
      omega
  | succ n ih =>
    intro l h hd hz
    obtain ⟨r, x, rfl⟩ : ∃ r x, l = r ++ [x] := ⟨l.dropLast, l.getLast (by intro e; rw [e] at h; simp at h), (List.dropLast_concat_getLast _).symm⟩
    rw [List.length_append, List.length_cons, List.length_nil] at h
    rw [List.all_append, Bool.and_eq_true] at hd
    have h1 := ih r (by omega) hd.1 (by
      intro e
      apply hz
      rw [List.getD_eq_getElem?_getD, List.getElem?_append_left (by omega), ← List.getD_eq_getElem?_getD]
      exact e)
    rw [numL_snoc, Nat.pow_succ]
    omega
/-- A small number has few digits. -/
theorem digR_small {m : Nat} {l : List UInt8} {b : Int} (hm : 1 ≤ m) (hb : b < ((10 ^ m : Nat) : Int)) (h0 : 0 ≤ digR 6 l) (h1 : digR 6 l ≤ b) : l.length ≤ m := by
  cases hw : wordB 6 l with
  | false => rw [(show digR 6 l = -1 by unfold digR; rw [hw]; rfl)] at h0; omega
  | true =>
    rw [digR_pos hw] at h1
    obtain ⟨g1, g2, g3, g4⟩ := wordB_lead hw
    rcases Nat.lt_or_ge m l.length with h | h
    · have h5 := numL_ge (l.length - 1) l (by omega) g3 (g4 (by omega))
      have h6 : 10 ^ m ≤ 10 ^ (l.length - 1) := Nat.pow_le_pow_right (by omega) (by omega)
      omega
    · exact h
theorem cutL_nil_iff (c : UInt8) (l : List UInt8) (w0 : List UInt8) (r : List (List UInt8)) (h : cutL c [] l = w0 :: r) : (r = [] ∧ w0 = l ∧ ∀ x ∈ l, x ≠ c) ∨ ∃ b, l = w0 ++ c :: b ∧ (∀ x ∈ w0, x ≠ c) ∧ r = cutL c [] b := by
  rcases index_one l c with ⟨_, h2⟩ | ⟨a, b, h1, h2, _⟩
  · rw [cutL_none c l [] h2, List.nil_append] at h
    injection h with e1 e2
    exact Or.inl ⟨e2.symm, e1.symm, h2⟩
  · rw [h1, cutL_hit c b a [] h2, List.nil_append] at h
    injection h with e1 e2
    subst e1
    exact Or.inr ⟨b, h1, h2, e2.symm⟩
theorem cut_hit (w0 b : List UInt8) (c : UInt8) (h : ∀ x ∈ w0, x ≠ c) : Go.Lib.cut (w0 ++ c :: b) [c] = (w0, b, true) := by
  rcases index_one (w0 ++ c :: b) c with ⟨_, h2⟩ | ⟨a, b2, h1, h2, h3⟩
  · exact absurd rfl (h2 c (by simp))
  · have hz := cutL_hit c b w0 [] h
    rw [h1, cutL_hit c b2 a [] h2, List.nil_append, List.nil_append] at hz
    injection hz with e1 _
    subst e1
    have hb : b2 = b := by simpa using h1.symm
    subst hb
    unfold Go.Lib.cut
    rw [h3, if_pos (by omega), Int.toNat_natCast]
    simp
theorem cut_miss (l : List UInt8) (c : UInt8) (h : ∀ x ∈ l, x ≠ c) : Go.Lib.cut l [c] = (l, [], false) := by
  rcases index_one l c with ⟨h1, _⟩ | ⟨a, b2, h1, _, _⟩
  · unfold Go.Lib.cut
    rw [h1, if_neg (by omega)]
  · exact absurd rfl (h c (by rw [h1]; simp))
theorem colon_bad (m : Nat) : ∀ (l cur : List UInt8), (58 : UInt8) ∈ cur ++ l → (cutL 44 cur l).all (wordB m) = false
  | [], cur, h => by
    rw [cutL, List.all_cons, List.all_nil, Bool.and_true]
    rw [List.append_nil] at h
    have hd : cur.all isDig = false := by
      rw [List.all_eq_false]
      exact ⟨58, h, by decide⟩
    unfold wordB
    rw [hd]
    simp
  | x :: r, cur, h => by
    rw [cutL]
    split
    · rename_i hx
      rw [List.all_cons]
      rcases List.mem_append.1 h with h1 | h1
      · have hd : cur.all isDig = false := by
          rw [List.all_eq_false]
          exact ⟨58, h1, by decide⟩
        have hw : wordB m cur = false := by
          unfold wordB
          rw [hd]
          simp
        rw [hw, Bool.false_and]
      · rw [colon_bad m r [] (by
          rcases List.mem_cons.1 h1 with e | e
          · rw [hx] at e
            exact absurd e (by decide)
          · simpa using e), Bool.and_false]
    · exact colon_bad m r (cur ++ [x]) (by simpa using h)
/-- An attribute read out of a text. -/
def readAR (n : Int) (L : List UInt8) : Int × List Int × Bool :=
  match cutL 58 [] L with
  | [h, t] => if L.length ≤ 40 ∧ goodAttrB n (digR 6 h) ((cutL 44 [] t).map (digR 6)) = true then (digR 6 h, (cutL 44 [] t).map (digR 6), true) else (0, [], false)
  | _ => (0, [], false)
theorem specLoopA (n sq : Int) (ws : List (List UInt8)) (hn : ws.length ≤ 1048577) : Ev (fun k => spec_ReadAttr.l0 k n (ws.map mkB) ((ws.map mkB).length : Int) 0 sq []) (if goodAttrB n sq (ws.map (digR 6)) = true then (sq, ws.map (digR 6), true) else (0, [], false)) := by
  have key : ∀ (d i : Nat), ws.length - i = d → i ≤ ws.length → Ev (fun k => spec_ReadAttr.l0 k n (ws.map mkB) ((ws.map mkB).length : Int) (i : Int) sq ((ws.take i).map (digR 6))) (if goodAttrB n sq (ws.map (digR 6)) = true then (sq, ws.map (digR 6), true) else (0, [], false)) := by
    intro d
    induction d with
    | zero =>
      intro i hi hi2
      obtain rfl : i = ws.length := by omega
      rw [List.take_length]
      have hg := specGoodAttr_ev n sq (ws.map (digR 6)) (by rw [List.length_map]; omega)
      refine Ev.step (f := fun k => (spec_GoodAttr.f k n sq (ws.map (digR 6))).bind fun t => if t = true then some (sq, ws.map (digR 6), true) else some (0, [], false)) (fun k => by rw [spec_ReadAttr.l0, if_neg (by rw [List.length_map]; omega)]) (Ev.bind hg ?_)
      cases goodAttrB n sq (ws.map (digR 6)) <;> exact Ev.now _
    | succ d ih =>
      intro i hi hi2
      have hil : i < ws.length := by omega
      have hr := l1ReadEv (mkB (ws.getD i []))
      rw [mkB_data] at hr
      have h1 := ih (i + 1) (by omega) (by omega)
      rw [take_next ws [] i hil, List.map_append] at h1
      refine Ev.step (f := fun k => (spec_l1Read.f k (mkB (ws.getD i []))).bind fun t => spec_ReadAttr.l0 k n (ws.map mkB) ((ws.map mkB).length : Int) ((i + 1 : Nat) : Int) sq ((ws.take i).map (digR 6) ++ [t])) (fun k => ?_) (Ev.bind hr h1)
      rw [spec_ReadAttr.l0, if_pos (by rw [List.length_map]; omega), if_pos (by omega), if_pos (by rw [List.length_map]; omega), rdB ws i hil, wrap_small (by omega) (by omega)]
      congr 1
      funext t
      rw [if_pos (by rw [List.length_map, List.length_take]; omega)]
      rfl
  have h := key ws.length 0 (by omega) (by omega)
  simpa using h
theorem specReadA_ev (n : Int) (s : ByteArray) (hs : s.size ≤ 1048576) : Ev (fun k => spec_ReadAttr.f k n s) (readAR n s.data.toList) := by
  have hsp := l1SplitEv s 58 hs
  have hj : ∀ ws, Ev (fun k => spec_ReadAttr.j0 k n ws true) (0, [], false) := fun ws => Ev.step (f := fun _ => some (0, [], false)) (fun k => by rw [spec_ReadAttr.j0, if_pos rfl]) (Ev.now _)
  have hlen := cutL_len 58 s.data.toList []
  unfold spec_ReadAttr.f readAR
  refine Ev.bind hsp ?_
  by_cases hl : s.data.toList.length ≤ 40
  · simp only [if_neg (show ¬ (s.size : Int) > 40 by rw [ba_size]; omega)]
    have hne := cutL_ne 58 s.data.toList []
    generalize cutL 58 [] s.data.toList = ws at hne hlen
    match ws, hne, hlen with
    | [], hne, _ => exact absurd rfl hne
    | [w0], _, _ => exact hj _
    | [h, t], _, hlen =>
      have hlt := hlen t (by simp)
      simp only [List.length_nil] at hlt
      have hsp2 := l1SplitEv (mkB t) 44 (by rw [mkB_size]; omega)
      have hr := l1ReadEv (mkB h)
      rw [mkB_data] at hsp2 hr
      have hmany := cutL_many 44 t []
      refine Ev.step (f := fun k => (spec_l1Read.f k (mkB h)).bind fun a => (spec_l1Split.f k (mkB t) 44).bind fun b => spec_ReadAttr.l0 k n b (b.length : Int) 0 a []) (fun k => ?_) (Ev.bind hr (Ev.bind hsp2 ?_))
      · rw [spec_ReadAttr.j0, if_neg (by simp), if_pos (by simp)]
        rw [show rdOf ByteArray.empty ([h, t].map mkB) 0 = mkB h from rfl, show rdOf ByteArray.empty ([h, t].map mkB) 1 = mkB t from rfl]
        congr 1
      · have hz := specLoopA n (digR 6 h) (cutL 44 [] t) (by omega)
        simp only [hl, true_and]
        exact hz
    | a :: b :: c :: r, _, _ =>
      rw [show ((((a :: b :: c :: r).map mkB).length : Int) != 2) = true by
        rw [bne_iff_ne]
        rw [List.length_map]
        simp only [List.length_cons]
        omega]
      exact hj _
  · simp only [if_pos (show (s.size : Int) > 40 by rw [ba_size]; omega)]
    have hz : (match cutL 58 [] s.data.toList with
      | [h, t] => if s.data.toList.length ≤ 40 ∧ goodAttrB n (digR 6 h) ((cutL 44 [] t).map (digR 6)) = true then (digR 6 h, (cutL 44 [] t).map (digR 6), true) else (0, [], false)
      | _ => ((0, [], false) : Int × List Int × Bool)) = (0, [], false) := by
      split
      · rw [if_neg (fun e => hl e.1)]
      · rfl
    rw [hz]
    exact hj _
/-- Both read the same numbers where they are good. -/
theorem read_same (n : Int) (h : List UInt8) (ws : List (List UInt8)) : (ws.all (wordB 1) = true ∧ goodAttrB n (digR 3 h) (ws.map numI) = true ↔ goodAttrB n (digR 6 h) (ws.map (digR 6)) = true) ∧
    (goodAttrB n (digR 6 h) (ws.map (digR 6)) = true → digR 3 h = digR 6 h ∧ ws.map numI = ws.map (digR 6)) := by
  have hword : ∀ w, wordB 1 w = true → numI w = digR 6 w := fun w hw => by
    have h1 := (wordB_lead hw).2.1
    rw [← digR_le (show 1 ≤ 6 by omega) w h1, digR_pos hw]
    rfl
  have down : goodAttrB n (digR 6 h) (ws.map (digR 6)) = true → digR 3 h = digR 6 h ∧ ws.all (wordB 1) = true := by
    intro hg
    have hin := hg
    unfold goodAttrB at hin
    simp only [Bool.and_eq_true, decide_eq_true_eq, Mine.inB_iff, Bool.not_eq_true'] at hin
    obtain ⟨_, h2, _, h4⟩ := hin
    have hl3 : h.length ≤ 3 := digR_small (b := 999) (by omega) (by decide) h2.1 h2.2
    refine ⟨digR_le (by omega) h hl3, List.all_eq_true.2 (fun w hw => ?_)⟩
    unfold Mine.anyP at h4
    have h5 := List.any_eq_false.1 h4 (digR 6 w) (List.mem_map.2 ⟨w, hw, rfl⟩)
    rw [Bool.not_eq_true, Mine.outB_false] at h5
    have hl1 : w.length ≤ 1 := digR_small (b := 6) (by omega) (by decide) h5.1 h5.2
    cases hz : wordB 1 w with
    | true => rfl
    | false =>
      have h6 := digR_neg.2 hz
      rw [digR_le (show 1 ≤ 6 by omega) w hl1] at h6
      omega
  have hmap : ws.all (wordB 1) = true → ws.map numI = ws.map (digR 6) := fun ha => List.map_congr_left (fun w hw => hword w (List.all_eq_true.1 ha w hw))
  refine ⟨⟨fun ⟨ha, hg⟩ => ?_, fun hg => ?_⟩, fun hg => ⟨(down hg).1, hmap (down hg).2⟩⟩
  · have hin := hg
    unfold goodAttrB at hin
    simp only [Bool.and_eq_true, decide_eq_true_eq, Mine.inB_iff, Bool.not_eq_true'] at hin
    have h2 := hin.2.1
    have hw3 : wordB 3 h = true := by
      cases hz : wordB 3 h with
      | true => rfl
      | false => have := digR_neg.2 hz; omega
    rw [← digR_le (show 3 ≤ 6 by omega) h (wordB_lead hw3).2.1, ← hmap ha]
    exact hg
  · refine ⟨(down hg).2, ?_⟩
    rw [(down hg).1, hmap (down hg).2]
    exact hg
theorem implReadA_ev (n : Int) (s : ByteArray) (hs : s.size ≤ 1048576) : Ev (fun k => impl_ReadAttr.f k n s) (readAR n s.data.toList) := by
  have hL : s.size = s.data.toList.length := ba_size s
  have main : ∀ (h t : List UInt8) (ok : Bool), Go.Lib.cut s.data.toList [58] = (h, t, ok) → h.length ≤ s.size → t.length ≤ s.size →
      Ev (fun k => impl_ReadAttr.f k n s) (if ok = true ∧ (cutL 44 [] t).all (wordB 1) = true ∧ s.data.toList.length ≤ 40 ∧ goodAttrB n (digR 3 h) ((cutL 44 [] t).map numI) = true then (digR 3 h, (cutL 44 [] t).map numI, true) else (0, [], false)) := by
    intro h t ok hc hh ht
    have e1 : strings_Cut.f s (⟨#[58]⟩ : ByteArray) = some (mkB h, mkB t, ok) := by
      unfold strings_Cut.f
      rw [if_pos (by omega), show (⟨#[58]⟩ : ByteArray).data.toList = [58] from rfl, hc]
      rfl
    have hdg := digitsEv (mkB h) 3 (by omega) (by omega) (by rw [mkB_size]; omega)
    rw [mkB_data] at hdg
    have hsp := splitEv (mkB t) 44 (by rw [mkB_size]; omega)
    rw [mkB_data] at hsp
    have hmany := cutL_many 44 t []
    have hnum := numbersEv (cutL 44 [] t) 1 (by omega) (by omega) (fun w hw => by have := cutL_len 44 t [] w hw; simp only [List.length_nil] at this; omega) (by omega)
    unfold impl_ReadAttr.f
    rw [e1]
    simp only [Option.bind_some]
    refine Ev.bind hdg ?_
    rw [hsp]
    simp only [Option.bind_some]
    refine Ev.bind hnum ?_
    generalize cutL 44 [] t = ws
    unfold numsR
    cases ok with
    | false => simp only [Bool.false_eq_true, if_false, false_and]; exact Ev.now _
    | true =>
      cases ha : ws.all (wordB 1) with
      | false => simp only [Bool.false_eq_true, if_false, if_true, false_and, and_false]; exact Ev.now _
      | true =>
        simp only [if_true, true_and]
        by_cases hl : s.data.toList.length ≤ 40
        · simp only [if_neg (show ¬ (s.size : Int) > 40 by omega), show impl_GoodAttr.f n (digR 3 h) (ws.map numI) = some (goodAttrB n (digR 3 h) (ws.map numI)) from rfl, Option.bind_some, hl, true_and]
          cases goodAttrB n (digR 3 h) (ws.map numI) <;> exact Ev.now _
        · simp only [if_pos (show (s.size : Int) > 40 by omega), hl, false_and, if_false]
          exact Ev.now _
  obtain ⟨w0, r, hw⟩ : ∃ w0 r, cutL 58 [] s.data.toList = w0 :: r := List.exists_cons_of_ne_nil (cutL_ne 58 _ _)
  rcases cutL_nil_iff 58 _ _ _ hw with ⟨rfl, rfl, hno⟩ | ⟨b, hb, hno, hr⟩
  · have h1 := main _ _ _ (cut_miss _ 58 hno) (by omega) (by simp)
    simp only [Bool.false_eq_true, false_and, if_false] at h1
    unfold readAR
    rw [hw]
    exact h1
  · have hlen := congrArg List.length hb
    rw [List.length_append, List.length_cons] at hlen
    have hcut : Go.Lib.cut s.data.toList [58] = (w0, b, true) := by rw [hb]; exact cut_hit w0 b 58 hno
    have h1 := main _ _ _ hcut (by omega) (by omega)
    have hs1 := read_same n w0 (cutL 44 [] b)
    unfold readAR
    rw [hw]
    rcases index_one b 58 with ⟨_, h2⟩ | ⟨a, b2, h2, h3, _⟩
    · rw [cutL_none 58 b [] h2, List.nil_append] at hr
      subst hr
      by_cases hg : s.data.toList.length ≤ 40 ∧ goodAttrB n (digR 6 w0) ((cutL 44 [] b).map (digR 6)) = true
      · rw [if_pos ⟨rfl, (hs1.1.2 hg.2).1, hg.1, (hs1.1.2 hg.2).2⟩, (hs1.2 hg.2).1, (hs1.2 hg.2).2] at h1
        simp only [if_pos hg]
        exact h1
      · rw [if_neg (fun e => hg ⟨e.2.2.1, hs1.1.1 ⟨e.2.1, e.2.2.2⟩⟩)] at h1
        simp only [if_neg hg]
        exact h1
    · have hbad : (cutL 44 [] b).all (wordB 1) = false := colon_bad 1 b [] (by rw [h2]; simp)
      rw [if_neg (fun e => by rw [hbad] at e; exact absurd e.2.1 (by simp))] at h1
      rw [h2, cutL_hit 58 b2 a [] h3] at hr
      obtain ⟨c, d, hcd⟩ := List.exists_cons_of_ne_nil (cutL_ne 58 b2 [])
      rw [hr, hcd]
      exact h1
theorem readAR_len (n : Int) (L : List UInt8) : (readAR n L).2.1.length ≤ 5 := by
  unfold readAR
  split
  · split
    · rename_i hg
      exact (goodAttr_in hg.2).2.1
    · simp
  · simp

theorem eqIntS_l (xs : List Int) (hm : xs.length ≤ 9223372036854775807) : ∀ (d i : Nat), xs.length - i = d → Ev (fun k => laws_eqIntS.l0 k xs xs (i : Int)) true := by
  intro d
  induction d with
  | zero => intro i hd; exact Ev.step (f := fun _ => some true) (fun k => by simp only [laws_eqIntS.l0]; rw [if_neg (by omega)]) (Ev.now _)
  | succ d ih =>
    intro i hd
    refine Ev.step (f := fun k => laws_eqIntS.l0 k xs xs ((i + 1 : Nat) : Int)) (fun k => ?_) (ih (i + 1) (by omega))
    simp only [laws_eqIntS.l0]
    rw [if_pos (by omega), if_pos (by omega), if_pos (by omega), if_pos trivial, wrap_next (n := xs.length) (by omega) hm]
/-- Numbers are the same as themselves. -/
theorem eqIntS_ev (xs : List Int) (hm : xs.length ≤ 9223372036854775807) : Ev (fun k => laws_eqIntS.f k xs xs) true := by
  refine Ev.congr (f := fun k => laws_eqIntS.l0 k xs xs ((0 : Nat) : Int)) (fun k => ?_) (eqIntS_l xs hm _ 0 rfl)
  unfold laws_eqIntS.f
  rw [if_pos rfl]
  rfl

theorem eqAttr_ev (s : Int) (l : List Int) (hm : l.length ≤ 9223372036854775807) : Ev (fun k => laws_eqAttr.f k s l s l) true := by
  unfold laws_eqAttr.f
  refine Ev.congr (f := fun k => (laws_eqIntS.f k l l).bind fun t => if t = true then some true else some false) (fun k => by rw [if_pos rfl]) (Ev.bind (eqIntS_ev l hm) (Ev.now _))

theorem markIntS_l (m : Int) (n : Nat) (hm : n ≤ 9223372036854775807) (h0 : 0 ≤ m) (h1 : m + n ≤ 9223372036854775807) : ∀ (d i : Nat) (acc : List Int), n - i = d → i ≤ n → acc.length = n → acc.take i = (Mine.seqI m n).take i →
    Ev (fun k => laws_markIntS.l0 k acc (m + (i : Int)) (i : Int)) (m + (n : Int), Mine.seqI m n) := by
  intro d
  induction d with
  | zero =>
    intro i acc hd hi hl ht
    obtain rfl : i = n := by omega
    have e : acc = Mine.seqI m i := Mine.take_all (i := i) (by rw [Mine.seqI_length]; omega) (by rw [Mine.seqI_length]; exact hl) ht
    exact Ev.step (f := fun _ => some _) (fun k => by simp only [laws_markIntS.l0]; rw [if_neg (by omega), e]) (Ev.now _)
  | succ d ih =>
    intro i acc hd hi hl ht
    have hs := Mine.take_set (Mine.seqI m n) acc 0 i (by rw [Mine.seqI_length]; omega) (by rw [Mine.seqI_length]; exact hl) ht
    rw [Mine.seqI_get m n i 0 (by omega)] at hs
    refine Ev.step (f := fun k => laws_markIntS.l0 k (acc.set i (m + (i : Int))) (m + ((i + 1 : Nat) : Int)) ((i + 1 : Nat) : Int)) (fun k => ?_) (ih (i + 1) _ (by omega) (by omega) (by simpa using hl) hs)
    have hw : wrap64 (m + (i : Int) + 1) = m + ((i + 1 : Nat) : Int) := by unfold wrap64; omega
    simp only [laws_markIntS.l0]
    rw [if_pos (by omega), if_pos (by omega), hw, wrap_next (n := n) (by omega) hm, Int.toNat_natCast]
/-- A row is written over with numbers that go on. -/
theorem markIntS_ev (l : List Int) (m : Int) (hm : l.length ≤ 9223372036854775807) (h0 : 0 ≤ m) (h1 : m + l.length ≤ 9223372036854775807) : Ev (fun k => laws_markIntS.f k l m) (m + (l.length : Int), Mine.seqI m l.length) := by
  have := markIntS_l m l.length hm h0 h1 _ 0 l rfl (by omega) rfl (by simp)
  unfold laws_markIntS.f
  simpa using this

theorem heldIntS_l (m : Int) (n : Nat) (hm : n ≤ 9223372036854775807) (h0 : 0 ≤ m) (h1 : m + n ≤ 9223372036854775807) : ∀ (d i : Nat), n - i = d → i ≤ n →
    Ev (fun k => laws_heldIntS.l0 k (Mine.seqI m n) (m + (i : Int)) (i : Int)) (m + (n : Int)) := by
  intro d
  induction d with
  | zero =>
    intro i hd hi
    obtain rfl : i = n := by omega
    exact Ev.step (f := fun _ => some _) (fun k => by simp only [laws_heldIntS.l0]; rw [if_neg (by rw [Mine.seqI_length]; omega)]) (Ev.now _)
  | succ d ih =>
    intro i hd hi
    refine Ev.step (f := fun k => laws_heldIntS.l0 k (Mine.seqI m n) (m + ((i + 1 : Nat) : Int)) ((i + 1 : Nat) : Int)) (fun k => ?_) (ih (i + 1) (by omega) (by omega))
    have hw : wrap64 (m + (i : Int) + 1) = m + ((i + 1 : Nat) : Int) := by unfold wrap64; omega
    simp only [laws_heldIntS.l0]
    rw [if_pos (by rw [Mine.seqI_length]; omega), if_pos (by omega), rd_nat, Mine.seqI_get m n i 0 (by omega), if_pos rfl, hw, wrap_next (n := n) (by omega) hm]
/-- A row that was written so is found so. -/
theorem heldIntS_ev (m : Int) (n : Nat) (hm : n ≤ 9223372036854775807) (h0 : 0 ≤ m) (h1 : m + n ≤ 9223372036854775807) : Ev (fun k => laws_heldIntS.f k (Mine.seqI m n) m) (m + (n : Int)) := by
  have := heldIntS_l m n hm h0 h1 _ 0 rfl (by omega)
  unfold laws_heldIntS.f
  simpa using this

theorem FnExactReadAttr : laws_FnExactReadAttr.Pure := by
  intro n s _ _
  by_cases hs : s.size ≤ 1048576
  · have hsp := specReadA_ev n s hs
    have him := implReadA_ev n s hs
    have hlen := readAR_len n s.data.toList
    generalize readAR n s.data.toList = R at hsp him hlen
    obtain ⟨q, l, b⟩ := R
    dsimp only at hlen
    have he := eqAttr_ev q l (by omega)
    have hm : Ev (fun k => laws_markAttr.f k q l 1) (1 + (l.length : Int), Mine.seqI 1 l.length) := by
      unfold laws_markAttr.f
      exact Ev.bind (markIntS_ev l 1 (by omega) (by omega) (by omega)) (Ev.now _)
    have hh : Ev (fun k => laws_heldAttr.f k q (Mine.seqI 1 l.length) 1) (1 + (l.length : Int)) := by
      unfold laws_heldAttr.f
      refine Ev.bind (heldIntS_ev 1 l.length (by omega) (by omega) (by omega)) ?_
      simp only [if_neg (show ¬ (1 + (l.length : Int)) < 0 by omega)]
      exact Ev.now _
    refine Ev.rounds (g := fun k => laws_FnExactReadAttr.f k n s) ?_
    unfold laws_FnExactReadAttr.f
    simp only [if_neg (show ¬ (s.size : Int) > 1048576 by omega)]
    refine Ev.bind hsp (Ev.bind him (Ev.bind he ?_))
    simp only [if_true, bne_self_eq_false]
    refine Ev.step (fun k => by simp only [laws_FnExactReadAttr.j0]; rw [if_neg (by simp)]) (Ev.bind hm (Ev.bind hh ?_))
    simp only [if_neg (show ¬ (1 + (l.length : Int)) < 0 by omega), if_true]
    refine Ev.bind him (Ev.bind he ?_)
    simp only [if_true, bne_self_eq_false]
    refine Ev.step (fun k => by simp only [laws_FnExactReadAttr.j1]; rw [if_neg (by simp)]) (Ev.bind hh ?_)
    simp only [if_neg (show ¬ (1 + (l.length : Int)) < 0 by omega), if_true]
    exact Ev.now true
  · refine ⟨0, ?_⟩
    unfold laws_FnExactReadAttr.f
    rw [if_pos (show (s.size : Int) > 1048576 by omega)]

end Go.Proofs.YtmknjfnhfcljcaaDoor.Pure
