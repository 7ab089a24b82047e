/- The law FnCmds holds, for every input. -/
import Derived.Test.YtmknjfnhfcljcaaDoorVFnCmds
import Derived.Test.YtmknjfnhfcljcaaDoorQFnCmdsx14
namespace Go.Proofs.YtmknjfnhfcljcaaDoor.Pure
open Go.RowKit Go.Proofs.YtmknjfnhfcljcaaDoor.QFnCmds Go.Proofs.YtmknjfnhfcljcaaDoorW.PrintWords Go.Proofs.YtmknjfnhfcljcaaDoorW.PrintLast Go.Proofs.YtmknjfnhfcljcaaDoorW.PrintMore
set_option linter.unusedVariables false
set_option linter.unusedSimpArgs false

theorem wrap_next {i : Nat} {n : Nat} (h : i < n) (hn : n ≤ 9223372036854775807) : wrap64 ((i : Int) + 1) = ((i + 1 : Nat) : Int) := by
 unfold wrap64
 omega
theorem rd_nat (l : List Int) (i : Nat) : rd l (i : Int) = l.getD i 0 := by unfold rd; rw [Int.toNat_natCast]
theorem wrap_small {x : Int} (h0 : -9223372036854775808 ≤ x) (h1 : x ≤ 9223372036854775807) : wrap64 x = x := by unfold wrap64; omega
theorem Ev.const {α : Type} {o : Option α} {a : α} (h : o = some a) : Ev (fun _ => o) a := ⟨0, fun _ _ => h⟩
theorem Ev.map {α β : Type} {g : Nat → Option α} {a : α} (h : Ev g a) (f : α → β) : Ev (fun k => (g k).bind fun t => some (f t)) (f a) := by
 obtain ⟨K, h⟩ := h
 exact ⟨K, fun k hk => by show (g k).bind _ = _; rw [h k hk, Option.bind_some]⟩
theorem loop_any {α ρ : Type} (F : Nat → Int → Option ρ) (xs : List α) (d : α) (p : α → Bool) (hit miss : ρ)
  (hs : ∀ i, i < xs.length → (p (xs.getD i d) = true → Ev (fun k => F k (i : Int)) hit) ∧ (p (xs.getD i d) = false → ∀ r, Ev (fun k => F k ((i + 1 : Nat) : Int)) r → Ev (fun k => F k (i : Int)) r))
  (he : Mine.anyP p xs = false → Ev (fun k => F k (xs.length : Int)) miss) : Ev (fun k => F k 0) (if Mine.anyP p xs = true then hit else miss) := by
 have key : ∀ (n i : Nat), xs.length - i = n → i ≤ xs.length → Mine.anyP p (xs.take i) = false → Ev (fun k => F k (i : Int)) (if Mine.anyP p (xs.drop i) = true then hit else miss) := by
  intro n
  induction n with
  | zero =>
   intro i hn hi hb
   obtain rfl : i = xs.length := by omega
   rw [List.drop_eq_nil_of_le (Nat.le_refl _)]
   rw [List.take_of_length_le (Nat.le_refl _)] at hb
   simpa [Mine.anyP] using he hb
  | succ n ih =>
   intro i hn hi hb
   rw [Mine.drop_at xs d i (by omega), Mine.anyP_cons]
   cases hp : p (xs.getD i d) with
   | true => simpa using (hs i (by omega)).1 hp
   | false =>
    have hb' : Mine.anyP p (xs.take (i + 1)) = false := by
     have e : xs.take (i + 1) = xs.take i ++ [xs.getD i d] := by
      rw [List.take_add_one, List.getD_eq_getElem?_getD, List.getElem?_eq_getElem (show i < xs.length by omega)]; rfl
     rw [e]
     unfold Mine.anyP at hb ⊢
     rw [List.any_append, hb, List.any_cons, hp]
     rfl
    simpa using (hs i (by omega)).2 hp _ (ih (i + 1) (by omega) (by omega) hb')
 simpa using key xs.length 0 (by omega) (by omega) (by simp [Mine.anyP])
def scan {σ α ρ : Type} (step : α → σ → Sum σ ρ) (fin : σ → ρ) : List α → σ → ρ
 | [], s => fin s
 | x :: xs, s => match step x s with
  | .inl s' => scan step fin xs s'
  | .inr r => r
theorem ba_ext {a b : ByteArray} (h : a.data.toList = b.data.toList) : a = b := by
 cases a; cases b
 simpa using h
theorem ba_append (a b : ByteArray) : (a ++ b).data.toList = a.data.toList ++ b.data.toList := by simp [ByteArray.data_append]
theorem ba_size (a : ByteArray) : a.size = a.data.toList.length := by obtain ⟨⟨l⟩⟩ := a; rfl

def cutL (c : UInt8) : List UInt8 → List UInt8 → List (List UInt8)
 | cur, [] => [cur]
 | cur, x :: r => if x = c then cur :: cutL c [] r else cutL c (cur ++ [x]) r
def mkB (l : List UInt8) : ByteArray := ⟨l.toArray⟩
theorem mkB_data (l : List UInt8) : (mkB l).data.toList = l := rfl
theorem mkB_self (s : ByteArray) : mkB s.data.toList = s := ba_ext rfl
theorem cutL_none (c : UInt8) : ∀ (l cur : List UInt8), (∀ x ∈ l, x ≠ c) → cutL c cur l = [cur ++ l]
 | [], cur, _ => by rw [cutL, List.append_nil]
 | x :: r, cur, h => by
  rw [cutL, if_neg (h x (by simp)), cutL_none c r _ (fun y hy => h y (by simp [hy])), List.append_assoc]
  rfl
theorem cutL_hit (c : UInt8) (b : List UInt8) : ∀ (l cur : List UInt8), (∀ x ∈ l, x ≠ c) → cutL c cur (l ++ c :: b) = (cur ++ l) :: cutL c [] b
 | [], cur, _ => by rw [List.nil_append, cutL, if_pos rfl, List.append_nil]
 | x :: r, cur, h => by
  rw [List.cons_append, cutL, if_neg (h x (by simp)), cutL_hit c b r _ (fun y hy => h y (by simp [hy])), List.append_assoc]
  rfl
theorem cutL_ne (c : UInt8) : ∀ (l cur : List UInt8), cutL c cur l ≠ []
 | [], cur => by rw [cutL]; simp
 | x :: r, cur => by
  rw [cutL]
  split
  ·simp
  ·exact cutL_ne c r _
theorem bt_data (s : ByteArray) (i : Nat) (h : i < s.size) : bt s (i : Int) = ((s.data.toList.getD i 0).toNat : Int) := by
 have h2 : i < s.data.toList.length := by rw [← ba_size]; exact h
 unfold bt
 rw [Int.toNat_natCast, dif_pos h, List.getD_eq_getElem?_getD, List.getElem?_eq_getElem h2]
 simp only [Option.getD_some, Array.getElem_toList]
 rfl
theorem drop_get (L : List UInt8) (i : Nat) (h : i < L.length) : L.drop i = L.getD i 0 :: L.drop (i + 1) := by
 rw [List.getD_eq_getElem?_getD, List.getElem?_eq_getElem h, Option.getD_some, List.drop_eq_getElem_cons h]
theorem take_get (L : List UInt8) (i : Nat) (h : i < L.length) : L.take (i + 1) = L.take i ++ [L.getD i 0] := by
 rw [List.take_add_one, List.getD_eq_getElem?_getD, List.getElem?_eq_getElem h]
 rfl
theorem l1SplitEv (s : ByteArray) (c : UInt8) (hs : s.size ≤ 1048576) : Ev (fun k => spec_l1Split.f k s ((c.toNat : Nat) : Int)) ((cutL c [] s.data.toList).map mkB) := by
 have key : ∀ (n i f : Nat) (out : List ByteArray), s.size - i = n → f ≤ i → i ≤ s.size → out.length ≤ i →
   Ev (fun k => spec_l1Split.l0 k s ((c.toNat : Nat) : Int) out (f : Int) (i : Int)) (out ++ (cutL c ((s.data.toList.take i).drop f) (s.data.toList.drop i)).map mkB) := by
  intro n
  induction n with
  | zero =>
   intro i f out hi hf hi2 ho
   obtain rfl : i = s.size := by omega
   have h1 : s.data.toList.drop s.size = [] := by rw [ba_size]; exact List.drop_length
   have h2 : s.data.toList.take s.size = s.data.toList := by rw [ba_size]; exact List.take_length
   rw [h1, h2, cutL, List.map_cons, List.map_nil]
   refine Ev.step (f := fun k => some _) (fun k => ?_) (Ev.now _)
   rw [spec_l1Split.l0, if_neg (by omega), if_pos (by omega), if_pos (by omega), if_pos (by omega), Int.toNat_natCast]
   congr 3
   refine ba_ext ?_
   rw [Go.Lib.extract_data, mkB_data, List.take_of_length_le (by rw [List.length_drop, ← ba_size]; omega)]
  | succ n ih =>
   intro i f out hi hf hi2 ho
   have hil : i < s.size := by omega
   have hil2 : i < s.data.toList.length := by rw [← ba_size]; exact hil
   rw [drop_get _ i hil2, cutL]
   have hb := bt_data s i hil
   by_cases hc : s.data.toList.getD i 0 = c
   ·rw [if_pos hc]
    have h1 := ih (i + 1) (i + 1) (out ++ [s.extract f i]) (by omega) (by omega) (by omega) (by rw [List.length_append]; simp only [List.length_cons, List.length_nil]; omega)
    rw [show (s.data.toList.take (i + 1)).drop (i + 1) = [] by rw [List.drop_eq_nil_iff, List.length_take]; omega] at h1
    have h2 : mkB ((s.data.toList.take i).drop f) = s.extract f i := by
     refine ba_ext ?_
     rw [Go.Lib.extract_data, mkB_data, List.drop_take]
    rw [List.map_cons, h2, ← List.singleton_append, ← List.append_assoc]
    refine Ev.step (f := fun k => spec_l1Split.l0 k s ((c.toNat : Nat) : Int) (out ++ [s.extract f i]) ((i + 1 : Nat) : Int) ((i + 1 : Nat) : Int)) (fun k => ?_) h1
    rw [spec_l1Split.l0, if_pos (by omega), if_pos (by omega), if_pos (by rw [hb, hc]), if_pos (by omega), if_pos (by omega), if_pos (by omega), if_pos (by omega), Int.toNat_natCast, Int.toNat_natCast, wrap_small (by omega) (by omega)]
    rfl
   ·rw [if_neg hc]
    have h1 := ih (i + 1) f out (by omega) (by omega) (by omega) (by omega)
    rw [take_get _ i hil2, List.drop_append_of_le_length (by rw [List.length_take]; omega)] at h1
    refine Ev.step (f := fun k => spec_l1Split.l0 k s ((c.toNat : Nat) : Int) out (f : Int) ((i + 1 : Nat) : Int)) (fun k => ?_) h1
    rw [spec_l1Split.l0, if_pos (by omega), if_pos (by omega), if_neg (fun e => hc ?_), wrap_small (by omega) (by omega)]
    ·rfl
    ·rw [hb] at e
     exact UInt8.toNat_inj.1 (by omega)
 have h := key s.size 0 0 [] (by omega) (by omega) (by omega) (by simp)
 unfold spec_l1Split.f
 simpa using h
theorem occ_at (L : List UInt8) (c : UInt8) (j : Nat) (h : j < L.length) : Go.Lib.occAt L [c] j = decide (L.getD j 0 = c) := by
 unfold Go.Lib.occAt
 rw [drop_get L j h]
 simp only [List.isPrefixOf, Bool.and_true]
 by_cases hc : L.getD j 0 = c
 ·rw [decide_eq_true hc, hc]
  simp
 ·rw [decide_eq_false hc]
  simp only [beq_eq_false_iff_ne]
  exact fun e => hc e.symm
theorem index_one (L : List UInt8) (c : UInt8) : (Go.Lib.index L [c] = -1 ∧ ∀ x ∈ L, x ≠ c) ∨ ∃ a b : List UInt8, L = a ++ c :: b ∧ (∀ x ∈ a, x ≠ c) ∧ Go.Lib.index L [c] = (a.length : Int) := by
 rcases Go.Lib.index_spec L [c] with ⟨h1, h2⟩ | ⟨i, h1, h2, h3, h4⟩
 ·refine Or.inl ⟨h1, fun x hx e => ?_⟩
  obtain ⟨j, hj, rfl⟩ := List.getElem_of_mem hx
  have h3 := h2 j (by omega)
  rw [occ_at L c j hj, decide_eq_false_iff_not, List.getD_eq_getElem?_getD, List.getElem?_eq_getElem hj] at h3
  exact h3 e
 ·have hil : i < L.length := by
   rcases Nat.lt_or_ge i L.length with h | h
   ·exact h
   ·unfold Go.Lib.occAt at h3
    rw [List.drop_eq_nil_of_le h] at h3
    simp at h3
  rw [occ_at L c i hil, decide_eq_true_eq] at h3
  refine Or.inr ⟨L.take i, L.drop (i + 1), ?_, fun x hx e => ?_, by rw [List.length_take, h1]; omega⟩
  ·rw [← h3, ← drop_get L i hil, List.take_append_drop]
  ·obtain ⟨j, hj, rfl⟩ := List.getElem_of_mem hx
   rw [List.length_take] at hj
   have h5 := h4 j (by omega)
   rw [occ_at L c j (by omega), decide_eq_false_iff_not, List.getD_eq_getElem?_getD, List.getElem?_eq_getElem (by omega)] at h5
   rw [List.getElem_take] at e
   exact h5 e
theorem splitB_cut (c : UInt8) : ∀ (n : Nat) (s : ByteArray), s.size ≤ n → Go.Lib.splitB ⟨#[c]⟩ 0 (Go.Lib.countB s ⟨#[c]⟩) s = (cutL c [] s.data.toList).map mkB := by
 have hsz : (⟨#[c]⟩ : ByteArray).size = 1 := rfl
 have hix : ∀ s : ByteArray, Go.Lib.indexB s ⟨#[c]⟩ = Go.Lib.index s.data.toList [c] := fun s => rfl
 intro n
 induction n with
 | zero =>
  intro s hs
  have h0 : s.data.toList = [] := List.length_eq_zero_iff.1 (by rw [← ba_size]; omega)
  have hm : Go.Lib.indexB s ⟨#[c]⟩ = -1 := by rw [hix, h0]; rfl
  rw [Go.Lib.splitB_miss _ _ _ _ hm, h0, cutL, List.map_cons, List.map_nil, ← h0, mkB_self]
 | succ n ih =>
  intro s hs
  rcases index_one s.data.toList c with ⟨h1, h2⟩ | ⟨a, b, h1, h2, h3⟩
  ·rw [Go.Lib.splitB_miss _ _ _ _ ((hix s).trans h1), cutL_none c _ _ h2, List.nil_append, List.map_cons, List.map_nil, mkB_self]
  ·have hi : Go.Lib.indexB s ⟨#[c]⟩ = (a.length : Int) := (hix s).trans h3
   have hb : (s.extract (a.length + 1) s.size).data.toList = b := by
    rw [Go.Lib.extract_data, ba_size, h1]
    rw [show a ++ c :: b = (a ++ [c]) ++ b by simp, List.drop_append_of_le_length (by simp), List.take_of_length_le (by simp only [List.length_append, List.length_cons, List.length_nil, List.length_drop]; omega)]
    simp
   have hl := congrArg List.length h1
   rw [← ba_size, List.length_append, List.length_cons] at hl
   have hs2 : (s.extract (a.length + 1) s.size).size ≤ n := by rw [ba_size, hb]; omega
   rw [Go.Lib.countB_hit s _ a.length (by rw [hsz]; omega) hi, Nat.add_comm, Go.Lib.splitB_hit _ _ _ _ _ hi, hsz, ih _ hs2, hb]
   conv => rhs; rw [h1, cutL_hit c b a [] h2]
   rw [List.map_cons]
   congr 1
   refine ba_ext ?_
   rw [Go.Lib.extract_from_zero, mkB_data, h1, Nat.add_zero]
   simp
theorem splitEv (s : ByteArray) (c : UInt8) (hs : s.size ≤ 1048576) : strings_Split.f s ⟨#[c]⟩ = some ((cutL c [] s.data.toList).map mkB) := by
 unfold strings_Split.f
 rw [if_pos ⟨by omega, Nat.le_refl 1⟩, splitB_cut c s.size s (Nat.le_refl _)]

theorem l1In_f (a b c : Int) : spec_l1In.f a b c = some (Mine.inB b c a) := by
 unfold spec_l1In.f Mine.inB
 by_cases h : a ≥ b
 ·rw [if_pos h]; simp [show b ≤ a from h]
 ·rw [if_neg h]; simp [show ¬ b ≤ a from h]

def isDig (x : UInt8) : Bool := decide (48 ≤ x.toNat ∧ x.toNat ≤ 57)
def numL (l : List UInt8) : Nat := l.foldl (fun a x => 10 * a + (x.toNat - 48)) 0
def wordB (m : Nat) (l : List UInt8) : Bool := decide (1 ≤ l.length ∧ l.length ≤ m) && (l.all isDig && !(decide (l.getD 0 0 = 48) && decide (1 < l.length)))
def digR (m : Nat) (l : List UInt8) : Int := if wordB m l = true then (numL l : Int) else -1
theorem numL_snoc (l : List UInt8) (x : UInt8) : numL (l ++ [x]) = 10 * numL l + (x.toNat - 48) := by
 unfold numL
 rw [List.foldl_append]
 rfl
theorem numL_lt (l : List UInt8) : ∀ n, l.length = n → l.all isDig = true → numL l < 10 ^ n := by
 intro n
 induction n generalizing l with
 | zero =>
  intro h _
  obtain rfl := List.length_eq_zero_iff.1 h
  show 0 < 1
  omega
 | succ n ih =>
  intro h hd
  obtain ⟨r, x, rfl⟩ : ∃ r x, l = r ++ [x] := ⟨l.dropLast, l.getLast (by intro e; rw [e] at h; simp at h), (List.dropLast_concat_getLast _).symm⟩
  rw [List.length_append, List.length_cons, List.length_nil] at h
  rw [List.all_append, Bool.and_eq_true] at hd
  have h1 := ih r (by omega) hd.1
  have h2 : isDig x = true := by simpa using hd.2
  unfold isDig at h2
  rw [decide_eq_true_eq] at h2
  rw [numL_snoc, Nat.pow_succ]
  omega
theorem all_take (L : List UInt8) (i : Nat) (h : i < L.length) (h1 : (L.take i).all isDig = true) (h2 : isDig (L.getD i 0) = true) : (L.take (i + 1)).all isDig = true := by
 rw [take_get L i h, List.all_append, h1]
 simpa using h2
theorem not_all (L : List UInt8) (i : Nat) (h : i < L.length) (h2 : isDig (L.getD i 0) = false) : L.all isDig = false := by
 rw [List.all_eq_false]
 refine ⟨L.getD i 0, ?_, by rw [h2]; simp⟩
 rw [List.getD_eq_getElem?_getD, List.getElem?_eq_getElem h]
 exact List.getElem_mem h
theorem wordB_bad {m : Nat} {L : List UInt8} (h : L.all isDig = false) : digR m L = -1 := by unfold digR wordB; rw [h]; simp
theorem dig_next {n : Nat} {x : UInt8} (hn : n < 1000000) (hx : isDig x = true) : wrap64 ((wrap64 (10 * (n : Int))) + ((((x.toNat : Nat) : Int) - 48) % 256)) = ((10 * n + (x.toNat - 48) : Nat) : Int) := by
 unfold isDig at hx
 rw [decide_eq_true_eq] at hx
 rw [wrap_small (x := 10 * (n : Int)) (by omega) (by omega), wrap_small (by omega) (by omega)]
 omega
theorem digitsEv (s : ByteArray) (m : Nat) (hm : 1 ≤ m) (hm6 : m ≤ 5) (hs : s.size ≤ 1048576) : Ev (fun k => impl_digits.f k s (m : Int)) (digR m s.data.toList) := by
 have hL : s.size = s.data.toList.length := ba_size s
 have hsL : ∀ i, i < s.size → bt s (i : Int) = ((s.data.toList.getD i 0).toNat : Int) := fun i h => bt_data s i h
 have hnil : s.toList = ([] : List UInt8) ↔ s.data.toList = [] := by rw [ByteArray.toList_eq]
 generalize hLe : s.data.toList = L at hL hsL hnil
 have key : ∀ (n i : Nat), s.size - i = n → i ≤ s.size → i ≤ m → (L.take i).all isDig = true → Ev (fun k => impl_digits.l0 k s (m : Int) ((numL (L.take i) : Nat) : Int) (s.size : Int) (i : Int)) (digR m L) := by
  intro n
  induction n with
  | zero =>
   intro i hi hi2 him hd
   obtain rfl : i = s.size := by omega
   have ht : L.take s.size = L := by rw [hL]; exact List.take_length
   rw [ht] at hd ⊢
   refine Ev.step (f := fun k => some (digR m L)) (fun k => ?_) (Ev.now _)
   rw [impl_digits.l0, if_neg (by omega)]
   by_cases h0 : s.size = 0
   ·have hLn : L = [] := List.length_eq_zero_iff.1 (by omega)
    rw [if_pos (hnil.2 hLn)]
    unfold digR wordB
    rw [hLn]
    rfl
   ·rw [if_neg (fun e => h0 (by have := hnil.1 e; rw [hL, this]; rfl)), if_pos (show (0 : Int) < (s.size : Int) by omega)]
    have hb0 := hsL 0 (by omega)
    by_cases hz : L.getD 0 0 = 48
    ·rw [if_pos (show bt s 0 = 48 by rw [show (0 : Int) = ((0 : Nat) : Int) from rfl, hb0, hz]; rfl)]
     by_cases h1 : 1 < s.size
     ·rw [if_pos (show (s.size : Int) > 1 by omega)]
      unfold digR wordB
      rw [decide_eq_true hz, decide_eq_true (show 1 < L.length by omega), hd]
      simp
     ·rw [if_neg (show ¬ (s.size : Int) > 1 by omega)]
      unfold digR wordB
      rw [decide_eq_true (show 1 ≤ L.length ∧ L.length ≤ m by omega), decide_eq_false (show ¬ 1 < L.length by omega), hd]
      simp
    ·have hz2 : ¬ bt s 0 = 48 := fun e => hz (by
      rw [show (0 : Int) = ((0 : Nat) : Int) from rfl, hb0] at e
      exact UInt8.toNat_inj.1 (by have : (48 : UInt8).toNat = 48 := rfl; omega))
     rw [if_neg hz2]
     unfold digR wordB
     rw [decide_eq_true (show 1 ≤ L.length ∧ L.length ≤ m by omega), decide_eq_false hz, hd]
     simp
  | succ n ih =>
   intro i hi hi2 him hd
   have hil : i < s.size := by omega
   have hb := hsL i hil
   cases hx : isDig (L.getD i 0) with
   | false =>
    rw [wordB_bad (not_all L i (by omega) hx)]
    unfold isDig at hx
    rw [decide_eq_false_iff_not] at hx
    refine Ev.step (f := fun k => some (-1)) (fun k => ?_) (Ev.now _)
    rw [impl_digits.l0, if_pos (by omega), if_pos (by omega), if_pos (by omega), hb]
    by_cases h1 : ((L.getD i 0).toNat : Int) < 48
    ·rw [if_pos h1]
    ·rw [if_neg h1, if_pos (by omega)]
   | true =>
    have hx2 := hx
    unfold isDig at hx2
    rw [decide_eq_true_eq] at hx2
    by_cases him2 : i < m
    ·have hlt := numL_lt (L.take i) i (by rw [List.length_take]; omega) hd
     have hlt2 : 10 ^ i ≤ 10 ^ 5 := Nat.pow_le_pow_right (by omega) (by omega)
     have h1 := ih (i + 1) (by omega) (by omega) (by omega) (all_take L i (by omega) hd hx)
     rw [take_get L i (by omega), numL_snoc] at h1
     refine Ev.step (f := fun k => _) (fun k => ?_) h1
     rw [impl_digits.l0, if_pos (by omega), if_pos (by omega), if_pos (by omega), hb, if_neg (by omega), if_neg (by omega), if_neg (by omega), dig_next (by omega) hx, wrap_small (x := (i : Int) + 1) (by omega) (by omega)]
     rfl
    ·have hbad : digR m L = -1 := by
      unfold digR wordB
      rw [decide_eq_false (show ¬ (1 ≤ L.length ∧ L.length ≤ m) by omega)]
      simp
     rw [hbad]
     refine Ev.step (f := fun k => some (-1)) (fun k => ?_) (Ev.now _)
     rw [impl_digits.l0, if_pos (by omega), if_pos (by omega), if_pos (by omega), hb, if_neg (by omega), if_neg (by omega), if_pos (by omega)]
 have h := key s.size 0 (by omega) (by omega) (by omega) (by simp)
 unfold impl_digits.f
 exact h
theorem l1ReadEv (s : ByteArray) : Ev (fun k => spec_l1Read.f k s) (digR 6 s.data.toList) := by
 have hL : s.size = s.data.toList.length := ba_size s
 have hsL : ∀ i, i < s.size → bt s (i : Int) = ((s.data.toList.getD i 0).toNat : Int) := fun i h => bt_data s i h
 generalize hLe : s.data.toList = L at hL hsL
 by_cases hsz : 1 ≤ s.size ∧ s.size ≤ 6
 ·by_cases hz : L.getD 0 0 = 48 ∧ 1 < s.size
  ·have hbad : digR 6 L = -1 := by
    unfold digR wordB
    rw [decide_eq_true hz.1, decide_eq_true (show 1 < L.length by omega)]
    simp
   rw [hbad]
   refine Ev.congr (f := fun k => spec_l1Read.j0 k s true) (fun k => ?_) (Ev.step (f := fun k => some (-1)) (fun k => by rw [spec_l1Read.j0, if_pos rfl]) (Ev.now _))
   unfold spec_l1Read.f
   rw [l1In_f, Option.bind_some, if_pos (Mine.inB_iff.2 (by omega)), if_pos (by omega), if_pos (show bt s 0 = 48 by rw [show (0 : Int) = ((0 : Nat) : Int) from rfl, hsL 0 (by omega), hz.1]; rfl), decide_eq_true (show (s.size : Int) > 1 by omega)]
  ·have key : ∀ (n i : Nat), s.size - i = n → i ≤ s.size → (L.take i).all isDig = true → Ev (fun k => spec_l1Read.l0 k s ((numL (L.take i) : Nat) : Int) (i : Int)) (digR 6 L) := by
    intro n
    induction n with
    | zero =>
     intro i hi hi2 hd
     obtain rfl : i = s.size := by omega
     have ht : L.take s.size = L := by rw [hL]; exact List.take_length
     rw [ht] at hd ⊢
     refine Ev.step (f := fun k => some (digR 6 L)) (fun k => ?_) (Ev.now _)
     rw [spec_l1Read.l0, if_neg (by omega)]
     unfold digR wordB
     rw [decide_eq_true (show 1 ≤ L.length ∧ L.length ≤ 6 by omega), hd]
     by_cases h0 : L.getD 0 0 = 48
     ·rw [decide_eq_true h0, decide_eq_false (show ¬ 1 < L.length by intro h; exact hz ⟨h0, by omega⟩)]
      simp
     ·rw [decide_eq_false h0]
      simp
    | succ n ih =>
     intro i hi hi2 hd
     have hil : i < s.size := by omega
     have hb := hsL i hil
     cases hx : isDig (L.getD i 0) with
     | false =>
      rw [wordB_bad (not_all L i (by omega) hx)]
      unfold isDig at hx
      rw [decide_eq_false_iff_not] at hx
      refine Ev.step (f := fun k => some (-1)) (fun k => ?_) (Ev.now _)
      rw [spec_l1Read.l0, if_pos (by omega), if_pos (by omega), hb]
      by_cases h1 : ((L.getD i 0).toNat : Int) < 48
      ·rw [if_pos h1]
      ·rw [if_neg h1, if_pos (by omega)]
     | true =>
      have hx2 := hx
      unfold isDig at hx2
      rw [decide_eq_true_eq] at hx2
      have hlt := numL_lt (L.take i) i (by rw [List.length_take]; omega) hd
      have hlt2 : 10 ^ i ≤ 10 ^ 5 := Nat.pow_le_pow_right (by omega) (by omega)
      have h1 := ih (i + 1) (by omega) (by omega) (all_take L i (by omega) hd hx)
      rw [take_get L i (by omega), numL_snoc] at h1
      refine Ev.step (f := fun k => _) (fun k => ?_) h1
      rw [spec_l1Read.l0, if_pos (by omega), if_pos (by omega), hb, if_neg (by omega), if_neg (by omega), dig_next (by omega) hx, wrap_small (x := (i : Int) + 1) (by omega) (by omega)]
      rfl
   have h := key s.size 0 (by omega) (by omega) (by simp)
   refine Ev.congr (f := fun k => spec_l1Read.j0 k s false) (fun k => ?_) (Ev.step (f := fun k => spec_l1Read.l0 k s 0 0) (fun k => by rw [spec_l1Read.j0, if_neg (by simp)]) h)
   unfold spec_l1Read.f
   rw [l1In_f, Option.bind_some, if_pos (Mine.inB_iff.2 (by omega)), if_pos (by omega)]
   by_cases h0 : L.getD 0 0 = 48
   ·rw [if_pos (show bt s 0 = 48 by rw [show (0 : Int) = ((0 : Nat) : Int) from rfl, hsL 0 (by omega), h0]; rfl), decide_eq_false (show ¬ (s.size : Int) > 1 by intro h; exact hz ⟨h0, by omega⟩)]
   ·rw [if_neg (fun e => h0 (by
     rw [show (0 : Int) = ((0 : Nat) : Int) from rfl, hsL 0 (by omega)] at e
     exact UInt8.toNat_inj.1 (by have : (48 : UInt8).toNat = 48 := rfl; omega)))]
 ·have hbad : digR 6 L = -1 := by
   unfold digR wordB
   rw [decide_eq_false (show ¬ (1 ≤ L.length ∧ L.length ≤ 6) by omega)]
   simp
  rw [hbad]
  refine Ev.congr (f := fun k => spec_l1Read.j0 k s true) (fun k => ?_) (Ev.step (f := fun k => some (-1)) (fun k => by rw [spec_l1Read.j0, if_pos rfl]) (Ev.now _))
  unfold spec_l1Read.f
  rw [l1In_f, Option.bind_some, if_neg (fun e => hsz (by have := Mine.inB_iff.1 e; omega))]
theorem digR_le {m m2 : Nat} (h : m ≤ m2) (l : List UInt8) (hl : l.length ≤ m) : digR m l = digR m2 l := by
 unfold digR wordB
 by_cases h1 : 1 ≤ l.length
 ·rw [decide_eq_true (show 1 ≤ l.length ∧ l.length ≤ m by omega), decide_eq_true (show 1 ≤ l.length ∧ l.length ≤ m2 by omega)]
 ·rw [decide_eq_false (show ¬ (1 ≤ l.length ∧ l.length ≤ m) by omega), decide_eq_false (show ¬ (1 ≤ l.length ∧ l.length ≤ m2) by omega)]
theorem digR_neg {m : Nat} {l : List UInt8} : digR m l < 0 ↔ wordB m l = false := by
 unfold digR
 cases h : wordB m l with
 | true => simp
 | false => simp
theorem digR_pos {m : Nat} {l : List UInt8} (h : wordB m l = true) : digR m l = (numL l : Int) := by unfold digR; rw [if_pos h]

theorem within_f (a b c : Int) : impl_within.f a b c = some (Mine.inB b c a) := by
 unfold impl_within.f Mine.inB
 by_cases h : b ≤ a
 ·rw [if_pos h]; simp [h]
 ·rw [if_neg h]; simp [h]

theorem cutL_len (c : UInt8) : ∀ (l cur w : List UInt8), w ∈ cutL c cur l → w.length ≤ cur.length + l.length
 | [], cur, w, h => by
  rw [cutL, List.mem_singleton] at h
  subst h
  simp
 | x :: r, cur, w, h => by
  rw [cutL] at h
  split at h
  ·rcases List.mem_cons.1 h with rfl | h
   ·simp
   ·have := cutL_len c r [] w h
    simp only [List.length_cons, List.length_nil] at this ⊢
    omega
  ·have := cutL_len c r _ w h
   simp only [List.length_append, List.length_cons, List.length_nil] at this ⊢
   omega
theorem cutL_many (c : UInt8) : ∀ (l cur : List UInt8), (cutL c cur l).length ≤ l.length + 1
 | [], cur => by rw [cutL]; simp
 | x :: r, cur => by
  rw [cutL]
  split
  ·have := cutL_many c r []
   simp only [List.length_cons]
   omega
  ·have := cutL_many c r (cur ++ [x])
   simp only [List.length_cons]
   omega
theorem mkB_size (l : List UInt8) : (mkB l).size = l.length := by rw [ba_size, mkB_data]
theorem rdB (ws : List (List UInt8)) (i : Nat) (h : i < ws.length) : rdOf ByteArray.empty (ws.map mkB) (i : Int) = mkB (ws.getD i []) := by
 unfold rdOf
 rw [Int.toNat_natCast]
 simp [List.getD_eq_getElem?_getD, h]
theorem getD_mem_ {α : Type} (ws : List α) (d : α) (i : Nat) (h : i < ws.length) : ws.getD i d ∈ ws := by
 rw [List.getD_eq_getElem?_getD, List.getElem?_eq_getElem h]
 exact List.getElem_mem h
theorem take_next {α : Type} (ws : List α) (d : α) (i : Nat) (h : i < ws.length) : ws.take (i + 1) = ws.take i ++ [ws.getD i d] := by
 rw [List.take_add_one, List.getD_eq_getElem?_getD, List.getElem?_eq_getElem h]
 rfl
def numI (w : List UInt8) : Int := (numL w : Int)
def numsR (m : Nat) (ws : List (List UInt8)) : List Int × Bool := if ws.all (wordB m) = true then (ws.map numI, true) else ([], false)
theorem numbersEv (ws : List (List UInt8)) (m : Nat) (hm : 1 ≤ m) (hm5 : m ≤ 5) (hw : ∀ w ∈ ws, w.length ≤ 1048576) (hn : ws.length ≤ 1048577) : Ev (fun k => impl_numbers.f k (ws.map mkB) (m : Int)) (numsR m ws) := by
 have key : ∀ (n i : Nat), ws.length - i = n → i ≤ ws.length → (ws.take i).all (wordB m) = true → Ev (fun k => impl_numbers.l0 k (m : Int) ((ws.take i).map numI) (ws.map mkB) ((ws.map mkB).length : Int) (i : Int)) (numsR m ws) := by
  intro n
  induction n with
  | zero =>
   intro i hi hi2 hd
   obtain rfl : i = ws.length := by omega
   rw [List.take_length] at hd ⊢
   refine Ev.step (f := fun k => some (numsR m ws)) (fun k => ?_) (Ev.now _)
   rw [impl_numbers.l0, if_neg (by rw [List.length_map]; omega)]
   unfold numsR
   rw [if_pos hd]
  | succ n ih =>
   intro i hi hi2 hd
   have hil : i < ws.length := by omega
   have hdg := digitsEv (mkB (ws.getD i [])) m hm hm5 (by rw [mkB_size]; exact hw _ (getD_mem_ ws [] i hil))
   rw [mkB_data] at hdg
   refine Ev.step (f := fun k => (impl_digits.f k (mkB (ws.getD i [])) (m : Int)).bind fun t => if t < 0 then some ([], false) else if ((ws.take i).map numI).length < 17592186044416 then impl_numbers.l0 k (m : Int) ((ws.take i).map numI ++ [t]) (ws.map mkB) ((ws.map mkB).length : Int) ((i + 1 : Nat) : Int) else none) (fun k => ?_) (Ev.bind hdg ?_)
   ·rw [impl_numbers.l0, if_pos (by rw [List.length_map]; omega), if_pos (by omega), if_pos (by rw [List.length_map]; omega), rdB ws i hil, wrap_small (by omega) (by omega)]
    rfl
   ·cases hb : wordB m (ws.getD i []) with
    | false =>
     have hneg : digR m (ws.getD i []) < 0 := digR_neg.2 hb
     have hall : ws.all (wordB m) = false := by
      rw [List.all_eq_false]
      exact ⟨_, getD_mem_ ws [] i hil, by rw [hb]; simp⟩
     unfold numsR
     rw [hall]
     simp only [if_pos hneg]
     exact Ev.now _
    | true =>
     have hpos := digR_pos hb
     rw [hpos]
     simp only [if_neg (show ¬ ((numL (ws.getD i []) : Nat) : Int) < 0 by omega), if_pos (show ((ws.take i).map numI).length < 17592186044416 by rw [List.length_map, List.length_take]; omega)]
     have h1 := ih (i + 1) (by omega) (by omega) (by rw [take_next ws [] i hil, List.all_append, hd]; simpa using hb)
     rw [take_next ws [] i hil, List.map_append] at h1
     exact h1
 have h := key ws.length 0 (by omega) (by omega) (by simp)
 unfold impl_numbers.f
 exact h

theorem implGoodCmd (k i f t a : Int) : impl_GoodCmd.f k i f t a = some (Mine.goodCmdB k i f t a) := by
 unfold impl_GoodCmd.f impl_isAccount.f Mine.goodCmdB
 simp only [within_f, Option.bind_some]
 by_cases h0 : k = 0
 ·simp [h0]
 ·rw [if_neg h0, if_neg h0]
  by_cases h1 : k = 1
  ·rw [if_pos h1, if_pos h1]
   by_cases hft : f = t
   ·cases Mine.inB 1 999 i <;> cases Mine.inB 0 3 f <;> cases Mine.inB 0 3 t <;> simp [hft]
   ·cases Mine.inB 1 999 i <;> cases Mine.inB 0 3 f <;> cases Mine.inB 0 3 t <;> cases Mine.inB 1 1000 a <;> simp [hft]
  ·rw [if_neg h1, if_neg h1]
   by_cases h2 : k = 2
   ·rw [if_pos h2, if_pos h2]
    by_cases ht : t = 0
    ·cases Mine.inB 1 999 i <;> cases Mine.inB 0 3 f <;> simp [ht]
    ·cases Mine.inB 1 999 i <;> cases Mine.inB 0 3 f <;> simp [ht]
   ·rw [if_neg h2, if_neg h2]

theorem l2Account_f (a : Int) : spec_l2Account.f a = some (Mine.inB 0 3 a) := by unfold spec_l2Account.f; rw [l1In_f, Option.bind_some]

def codeR (k i f t a : Int) : Int :=
 if Mine.inB 0 3 f = true then (if k = 1 then (if Mine.inB 0 3 t = true then (if f = t then 5 else if Mine.inB 1 999 i = true then (if Mine.inB 1 1000 a = true then 0 else 6) else 6) else 4) else (if Mine.inB 1 999 i = true then 0 else 6)) else 4
theorem l2Code_f (k i f t a : Int) : spec_l2Code.f k i f t a = some (codeR k i f t a) := by
 unfold spec_l2Code.f codeR
 simp only [l1In_f, l2Account_f, Option.bind_some]
 cases Mine.inB 0 3 f with
 | false => rfl
 | true =>
  by_cases h1 : k = 1
  ·simp only [if_pos h1, if_true]
   cases Mine.inB 0 3 t with
   | false => rfl
   | true =>
    by_cases hft : f = t
    ·simp only [if_pos hft, if_true]
    ·simp only [if_neg hft, if_true]
     cases Mine.inB 1 999 i <;> cases Mine.inB 1 1000 a <;> rfl
  ·simp only [if_neg h1, if_true]
   cases Mine.inB 1 999 i <;> rfl
abbrev RC : Type := Int × Int × Int × Int × Int × Int × Bool
def finR (k i f t a : Int) : RC := if codeR k i f t a > 0 then (0, 0, 0, 0, 0, codeR k i f t a, false) else (k, i, f, t, a, 0, true)
def badR (c : Int) : RC := (0, 0, 0, 0, 0, c, false)
def moveL : List UInt8 := [109, 111, 118, 101]
def readL : List UInt8 := [114, 101, 97, 100]
def dashL : List UInt8 := [45]
def readR (w0 : List UInt8) (r : List (List UInt8)) : RC :=
 if w0 = moveL then (if r.length = 4 then (if r.all (wordB 4) = true then finR 1 (numI (r.getD 0 [])) (numI (r.getD 1 [])) (numI (r.getD 2 [])) (numI (r.getD 3 [])) else badR 3) else badR 2)
 else if w0 = readL then (if r.length = 2 then (if r.all (wordB 4) = true then finR 2 (numI (r.getD 0 [])) (numI (r.getD 1 [])) 0 0 else badR 3) else badR 2)
 else if w0 = dashL then (if r.length = 0 then (0, 0, 0, 0, 0, 0, true) else badR 2) else badR 1
theorem isAccount_f (x : Int) : impl_isAccount.f x = some (Mine.inB 0 3 x) := by unfold impl_isAccount.f; simp only [within_f, Option.bind_some]
theorem j2_true (x i f t a b : Int) : Ev (fun n => impl_ReadCmd.j2 n true x i f t a) (badR 5) := Ev.step (f := fun _ => some (badR 5)) (fun k => by rw [impl_ReadCmd.j2, if_pos rfl]; rfl) (Ev.now _)
theorem j2_false (x i f t a : Int) : Ev (fun n => impl_ReadCmd.j2 n false x i f t a) (if Mine.goodCmdB x i f t a = true then (x, i, f, t, a, 0, true) else badR 6) := by
 refine Ev.step (f := fun _ => some _) (fun k => ?_) (Ev.now _)
 rw [impl_ReadCmd.j2, if_neg (by simp), implGoodCmd, Option.bind_some]
 cases Mine.goodCmdB x i f t a <;> rfl
theorem implFin (kd i f t a : Int) (h : kd = 1 ∨ (kd = 2 ∧ t = 0 ∧ a = 0)) : Ev (fun n => impl_ReadCmd.j0 n kd kd i f t a) (finR kd i f t a) := by
 refine Ev.step (f := fun n => if Mine.inB 0 3 f = true then impl_ReadCmd.j1 n kd (!(Mine.inB 0 3 t)) kd i f t a else impl_ReadCmd.j1 n kd true kd i f t a) (fun k => ?_) ?_
 ·rw [impl_ReadCmd.j0, isAccount_f, isAccount_f, Option.bind_some]
  cases Mine.inB 0 3 f <;> rfl
 have h4 : Ev (fun n => impl_ReadCmd.j1 n kd true kd i f t a) (badR 4) := Ev.step (f := fun _ => some (badR 4)) (fun k => by rw [impl_ReadCmd.j1, if_pos rfl]; rfl) (Ev.now _)
 cases hf : Mine.inB 0 3 f with
 | false =>
  have hc : codeR kd i f t a = 4 := by unfold codeR; rw [hf]; rfl
  unfold finR
  rw [hc]
  exact h4
 | true =>
  simp only [if_true]
  rcases h with rfl | ⟨rfl, rfl, rfl⟩
  ·cases ht : Mine.inB 0 3 t with
   | false =>
    have hc : codeR 1 i f t a = 4 := by unfold codeR; rw [hf, ht]; rfl
    unfold finR
    rw [hc]
    exact h4
   | true =>
    refine Ev.step (f := fun n => impl_ReadCmd.j2 n (f == t) 1 i f t a) (fun k => by rw [impl_ReadCmd.j1, if_neg (by simp), if_pos rfl]) ?_
    by_cases hft : f = t
    ·have hc : codeR 1 i f t a = 5 := by unfold codeR; rw [hf, ht, if_pos hft]; rfl
     unfold finR
     rw [hc, beq_iff_eq.2 hft]
     exact j2_true 1 i f t a 0
    ·rw [beq_eq_false_iff_ne.2 hft]
     have hz := j2_false 1 i f t a
     have hg : Mine.goodCmdB 1 i f t a = (Mine.inB 1 999 i && Mine.inB 1 1000 a) := by
      unfold Mine.goodCmdB
      rw [if_neg (by omega), if_pos rfl, hf, ht, beq_eq_false_iff_ne.2 hft]
      simp
     rw [hg] at hz
     unfold finR codeR
     rw [hf, ht]
     simp only [if_true, if_neg hft]
     cases h1 : Mine.inB 1 999 i <;> cases h2 : Mine.inB 1 1000 a <;> rw [h1, h2] at hz <;> exact hz
  ·rw [show Mine.inB 0 3 0 = true from rfl]
   refine Ev.step (f := fun n => impl_ReadCmd.j2 n false 2 i f 0 0) (fun k => by rw [impl_ReadCmd.j1, if_neg (by simp), if_neg (by omega)]) ?_
   have hz := j2_false 2 i f 0 0
   have hg : Mine.goodCmdB 2 i f 0 0 = Mine.inB 1 999 i := by
    unfold Mine.goodCmdB
    rw [if_neg (by omega), if_neg (by omega), if_pos rfl, hf]
    simp
   rw [hg] at hz
   unfold finR codeR
   rw [hf]
   simp only [if_true, if_neg (show ¬ (2 : Int) = 1 by omega)]
   cases h1 : Mine.inB 1 999 i <;> rw [h1] at hz <;> exact hz
theorem specStep (kd : Int) (xs : List Int) (hx : xs.length = 4) (ws : List (List UInt8)) (i : Nat) (hi : i < ws.length) (hi4 : i < 4) (hl : ws.length ≤ 4) :
  (wordB 4 (ws.getD i []) = true → ∀ r, Ev (fun k => spec_ReadCmd.l0 k kd (xs.set i (numI (ws.getD i []))) (ws.map mkB) ((ws.map mkB).length : Int) ((i + 1 : Nat) : Int)) r → Ev (fun k => spec_ReadCmd.l0 k kd xs (ws.map mkB) ((ws.map mkB).length : Int) (i : Int)) r) ∧
  (wordB 4 (ws.getD i []) = false → Ev (fun k => spec_ReadCmd.l0 k kd xs (ws.map mkB) ((ws.map mkB).length : Int) (i : Int)) (badR 3)) := by
 have hr := l1ReadEv (mkB (ws.getD i []))
 rw [mkB_data] at hr
 have hstep : ∀ (r : RC), Ev (fun n => if ((ws.getD i []).length : Int) > 4 then some (badR 3) else if digR 6 (ws.getD i []) < 0 then some (badR 3) else spec_ReadCmd.l0 n kd (xs.set i (digR 6 (ws.getD i []))) (ws.map mkB) ((ws.map mkB).length : Int) ((i + 1 : Nat) : Int)) r →
   Ev (fun k => spec_ReadCmd.l0 k kd xs (ws.map mkB) ((ws.map mkB).length : Int) (i : Int)) r := by
  intro r h
  refine Ev.step (f := fun k => (spec_l1Read.f k (mkB (ws.getD i []))).bind fun t => if ((ws.getD i []).length : Int) > 4 then some (badR 3) else if t < 0 then some (badR 3) else spec_ReadCmd.l0 k kd (xs.set i t) (ws.map mkB) ((ws.map mkB).length : Int) ((i + 1 : Nat) : Int)) (fun k => ?_) (Ev.bind hr h)
  rw [spec_ReadCmd.l0, if_pos (by rw [List.length_map]; omega), if_pos (by omega), if_pos (by rw [List.length_map]; omega), rdB ws i hi, wrap_small (by omega) (by omega), mkB_size, Int.toNat_natCast]
  congr 1
  funext t
  have hset : (xs.set i t).getD i 0 = t := by
   rw [List.getD_eq_getElem?_getD, List.getElem?_set_self (by omega)]
   rfl
  rw [if_pos (by omega), Option.bind_some, rd_nat, hset]
  rfl
 refine ⟨fun hb r h => hstep r ?_, fun hb => hstep _ ?_⟩
 ·have hlen : (ws.getD i []).length ≤ 4 := by
   unfold wordB at hb
   simp only [Bool.and_eq_true, decide_eq_true_eq] at hb
   exact hb.1.2
  have hd : digR 6 (ws.getD i []) = numI (ws.getD i []) := (digR_le (by omega) _ hlen).symm.trans (digR_pos hb)
  have hp : ¬ numI (ws.getD i []) < 0 := by unfold numI; omega
  rw [hd]
  simp only [if_neg (show ¬ ((ws.getD i []).length : Int) > 4 by omega), if_neg hp]
  exact h
 ·by_cases hlen : (ws.getD i []).length ≤ 4
  ·have hd : digR 6 (ws.getD i []) < 0 := by rw [← digR_le (show 4 ≤ 6 by omega) _ hlen]; exact digR_neg.2 hb
   simp only [if_neg (show ¬ ((ws.getD i []).length : Int) > 4 by omega), if_pos hd]
   exact Ev.now _
  ·simp only [if_pos (show ((ws.getD i []).length : Int) > 4 by omega)]
   exact Ev.now _
theorem specEnd (kd a b c d : Int) (ws : List (List UInt8)) (i : Nat) (hi : i = ws.length) : Ev (fun k => spec_ReadCmd.l0 k kd [a, b, c, d] (ws.map mkB) ((ws.map mkB).length : Int) (i : Int)) (if kd = 0 then (kd, a, b, c, d, 0, true) else finR kd a b c d) := by
 refine Ev.step (f := fun k => some _) (fun k => ?_) (Ev.now _)
 rw [spec_ReadCmd.l0, if_neg (by rw [List.length_map]; omega), if_pos (by simp), if_pos (by simp), if_pos (by simp), if_pos (by simp)]
 show (if kd = 0 then some (kd, a, b, c, d, 0, true) else (spec_l2Code.f kd a b c d).bind fun t => if t > 0 then some (0, 0, 0, 0, 0, t, false) else some (kd, a, b, c, d, 0, true)) = _
 by_cases h0 : kd = 0
 ·rw [if_pos h0, if_pos h0]
 ·rw [if_neg h0, if_neg h0, l2Code_f, Option.bind_some]
  unfold finR
  split <;> rfl
theorem specJ0 (w0 : List UInt8) (r : List (List UInt8)) (many kd : Int) (res : RC) (h : (r.length : Int) + 1 = many → Ev (fun k => spec_ReadCmd.l0 k kd [0, 0, 0, 0] (r.map mkB) ((r.map mkB).length : Int) 0) res) (h2 : ¬ (r.length : Int) + 1 = many → res = badR 2) :
  Ev (fun k => spec_ReadCmd.j0 k ((w0 :: r).map mkB) many kd) res := by
 by_cases hl : (r.length : Int) + 1 = many
 ·refine Ev.step (f := fun k => spec_ReadCmd.l0 k kd [0, 0, 0, 0] (r.map mkB) ((r.map mkB).length : Int) 0) (fun k => ?_) (h hl)
  rw [spec_ReadCmd.j0, if_pos (by rw [List.length_map, List.length_cons]; omega), if_pos (by omega), if_pos (by rw [List.length_map, List.length_cons]; omega), Option.bind_some]
  rfl
 ·rw [h2 hl]
  refine Ev.step (f := fun k => some (badR 2)) (fun k => ?_) (Ev.now _)
  rw [spec_ReadCmd.j0, if_neg (by rw [List.length_map, List.length_cons]; omega)]
  rfl
theorem specRead_ev (s : ByteArray) (w0 : List UInt8) (r : List (List UInt8)) (hs : s.size ≤ 1048576) (hw : cutL 32 [] s.data.toList = w0 :: r) : Ev (fun k => spec_ReadCmd.f k s) (readR w0 r) := by
 have hsp := l1SplitEv s 32 hs
 rw [hw] at hsp
 unfold spec_ReadCmd.f
 refine Ev.bind hsp ?_
 simp only [if_pos (show (0 : Int) < (((w0 :: r).map mkB).length : Int) by rw [List.length_map, List.length_cons]; omega)]
 have h0 : (rdOf ByteArray.empty ((w0 :: r).map mkB) 0).toList = w0 := by
  rw [show (0 : Int) = ((0 : Nat) : Int) from rfl, rdB _ 0 (by simp), ByteArray.toList_eq]
  rfl
 rw [h0]
 unfold readR
 by_cases h1 : w0 = moveL
 ·simp only [if_pos h1, if_pos (show w0 = ([109, 111, 118, 101] : List UInt8) from h1)]
  refine specJ0 w0 r 5 1 _ (fun hl => ?_) (fun hl => by rw [if_neg (by omega)])
  have h4 : r.length = 4 := by omega
  rw [if_pos h4]
  obtain ⟨w1, w2, w3, w4, rfl⟩ : ∃ a b c d, r = [a, b, c, d] := by
   match r, h4 with
   | [a, b, c, d], _ => exact ⟨a, b, c, d, rfl⟩
  have s0 := specStep 1 [0, 0, 0, 0] rfl [w1, w2, w3, w4] 0 (by simp) (by omega) (by simp)
  cases hb1 : wordB 4 w1 with
  | false => rw [if_neg (by simp [hb1])]; exact s0.2 hb1
  | true =>
   refine s0.1 hb1 _ ?_
   have s1 := specStep 1 [numI w1, 0, 0, 0] rfl [w1, w2, w3, w4] 1 (by simp) (by omega) (by simp)
   cases hb2 : wordB 4 w2 with
   | false => rw [if_neg (by simp [hb2])]; exact s1.2 hb2
   | true =>
    refine s1.1 hb2 _ ?_
    have s2 := specStep 1 [numI w1, numI w2, 0, 0] rfl [w1, w2, w3, w4] 2 (by simp) (by omega) (by simp)
    cases hb3 : wordB 4 w3 with
    | false => rw [if_neg (by simp [hb3])]; exact s2.2 hb3
    | true =>
     refine s2.1 hb3 _ ?_
     have s3 := specStep 1 [numI w1, numI w2, numI w3, 0] rfl [w1, w2, w3, w4] 3 (by simp) (by omega) (by simp)
     cases hb4 : wordB 4 w4 with
     | false => rw [if_neg (by simp [hb4])]; exact s3.2 hb4
     | true =>
      refine s3.1 hb4 _ ?_
      rw [if_pos (by simp [hb1, hb2, hb3, hb4])]
      exact specEnd 1 (numI w1) (numI w2) (numI w3) (numI w4) [w1, w2, w3, w4] 4 rfl
 ·simp only [if_neg h1, if_neg (show ¬ w0 = ([109, 111, 118, 101] : List UInt8) from h1)]
  by_cases h2 : w0 = readL
  ·simp only [if_pos h2, if_pos (show w0 = ([114, 101, 97, 100] : List UInt8) from h2)]
   refine specJ0 w0 r 3 2 _ (fun hl => ?_) (fun hl => by rw [if_neg (by omega)])
   have h4 : r.length = 2 := by omega
   rw [if_pos h4]
   obtain ⟨w1, w2, rfl⟩ : ∃ a b, r = [a, b] := by
    match r, h4 with
    | [a, b], _ => exact ⟨a, b, rfl⟩
   have s0 := specStep 2 [0, 0, 0, 0] rfl [w1, w2] 0 (by simp) (by omega) (by simp)
   cases hb1 : wordB 4 w1 with
   | false => rw [if_neg (by simp [hb1])]; exact s0.2 hb1
   | true =>
    refine s0.1 hb1 _ ?_
    have s1 := specStep 2 [numI w1, 0, 0, 0] rfl [w1, w2] 1 (by simp) (by omega) (by simp)
    cases hb2 : wordB 4 w2 with
    | false => rw [if_neg (by simp [hb2])]; exact s1.2 hb2
    | true =>
     refine s1.1 hb2 _ ?_
     rw [if_pos (by simp [hb1, hb2])]
     exact specEnd 2 (numI w1) (numI w2) 0 0 [w1, w2] 2 rfl
  ·simp only [if_neg h2, if_neg (show ¬ w0 = ([114, 101, 97, 100] : List UInt8) from h2)]
   by_cases h3 : w0 = dashL
   ·simp only [if_pos h3, if_pos (show w0 = ([45] : List UInt8) from h3)]
    refine specJ0 w0 r 1 0 _ (fun hl => ?_) (fun hl => by rw [if_neg (by omega)])
    have h4 : r.length = 0 := by omega
    rw [if_pos h4]
    obtain rfl : r = [] := List.length_eq_zero_iff.1 h4
    exact specEnd 0 0 0 0 0 [] 0 rfl
   ·simp only [if_neg h3, if_neg (show ¬ w0 = ([45] : List UInt8) from h3)]
    exact Ev.now _
def kinds3 : List ByteArray := [(⟨#[45]⟩ : ByteArray), (⟨#[109, 111, 118, 101]⟩ : ByteArray), (⟨#[114, 101, 97, 100]⟩ : ByteArray)]
def kindR (w0 : List UInt8) : Int := if w0 = dashL then 0 else if w0 = moveL then 1 else if w0 = readL then 2 else -1
theorem kindEv (w0 : List UInt8) : Ev (fun k => slices_Index_string_string.f k kinds3 (mkB w0)) (kindR w0) := by
 have ht : (mkB w0).toList = w0 := by rw [ByteArray.toList_eq]; rfl
 have e0 : (rdOf ByteArray.empty kinds3 0).toList = dashL := by rw [ByteArray.toList_eq]; rfl
 have e1 : (rdOf ByteArray.empty kinds3 1).toList = moveL := by rw [ByteArray.toList_eq]; rfl
 have e2 : (rdOf ByteArray.empty kinds3 2).toList = readL := by rw [ByteArray.toList_eq]; rfl
 have hl : (kinds3.length : Int) = 3 := rfl
 have s3 : Ev (fun k => slices_Index_string_string.l0 k kinds3 (mkB w0) 3 3) (-1) := Ev.step (f := fun _ => some (-1)) (fun k => by rw [slices_Index_string_string.l0, if_neg (by omega)]) (Ev.now _)
 have s2 : Ev (fun k => slices_Index_string_string.l0 k kinds3 (mkB w0) 3 2) (if w0 = readL then 2 else -1) := by
  refine Ev.step (f := fun k => if w0 = readL then some 2 else slices_Index_string_string.l0 k kinds3 (mkB w0) 3 3) (fun k => by rw [slices_Index_string_string.l0, if_pos (by omega), if_pos (by omega), if_pos (by rw [hl]; omega), ht, e2, show wrap64 ((2 : Int) + 1) = 3 by unfold wrap64; omega]) ?_
  by_cases h : w0 = readL
  ·simp only [if_pos h]; exact Ev.now _
  ·simp only [if_neg h]; exact s3
 have s1 : Ev (fun k => slices_Index_string_string.l0 k kinds3 (mkB w0) 3 1) (if w0 = moveL then 1 else if w0 = readL then 2 else -1) := by
  refine Ev.step (f := fun k => if w0 = moveL then some 1 else slices_Index_string_string.l0 k kinds3 (mkB w0) 3 2) (fun k => by rw [slices_Index_string_string.l0, if_pos (by omega), if_pos (by omega), if_pos (by rw [hl]; omega), ht, e1, show wrap64 ((1 : Int) + 1) = 2 by unfold wrap64; omega]) ?_
  by_cases h : w0 = moveL
  ·simp only [if_pos h]; exact Ev.now _
  ·simp only [if_neg h]; exact s2
 unfold slices_Index_string_string.f kindR
 rw [hl]
 refine Ev.step (f := fun k => if w0 = dashL then some 0 else slices_Index_string_string.l0 k kinds3 (mkB w0) 3 1) (fun k => by rw [slices_Index_string_string.l0, if_pos (by omega), if_pos (by omega), if_pos (by rw [hl]; omega), ht, e0, show wrap64 ((0 : Int) + 1) = 1 by unfold wrap64; omega]) ?_
 by_cases h : w0 = dashL
 ·simp only [if_pos h]; exact Ev.now _
 ·simp only [if_neg h]; exact s1
theorem implRead_ev (s : ByteArray) (w0 : List UInt8) (r : List (List UInt8)) (hs : s.size ≤ 1048576) (hw : cutL 32 [] s.data.toList = w0 :: r) : Ev (fun k => impl_ReadCmd.f k s) (readR w0 r) := by
 have hlen : ∀ w ∈ r, w.length ≤ 1048576 := fun w h => by
  have := cutL_len 32 s.data.toList [] w (by rw [hw]; simp [h])
  rw [← ba_size] at this
  simp only [List.length_nil] at this
  omega
 have hmany := cutL_many 32 s.data.toList []
 rw [hw, ← ba_size, List.length_cons] at hmany
 have hnum := numbersEv r 4 (by omega) (by omega) hlen (by omega)
 have h0 : rdOf ByteArray.empty ((w0 :: r).map mkB) 0 = mkB w0 := by
  rw [show (0 : Int) = ((0 : Nat) : Int) from rfl, rdB _ 0 (by simp)]
  rfl
 have hl : (((w0 :: r).map mkB).length : Int) = (r.length : Int) + 1 := by rw [List.length_map, List.length_cons]; omega
 unfold impl_ReadCmd.f
 rw [show strings_Split.f s (⟨#[32]⟩ : ByteArray) = some ((w0 :: r).map mkB) by rw [splitEv s 32 hs, hw]]
 simp only [Option.bind_some, h0, hl, if_pos (show (0 : Int) < (r.length : Int) + 1 by omega)]
 refine Ev.bind (kindEv w0) ?_
 have hd : ((w0 :: r).map mkB).drop 1 = r.map mkB := rfl
 rw [hd]
 have hb3 : ∀ x : Int, (0 : Int) ≤ x → x < 3 → ¬ x < 0 ∧ x < ((([1, 5, 3] : List Int)).length : Int) := fun x h1 h2 => ⟨by omega, by show x < 3; exact h2⟩
 have c1 : (1 : Int) ≤ (r.length : Int) + 1 := by omega
 have e0 : rd [1, 5, 3] 0 = 1 := rfl
 have e1 : rd [1, 5, 3] 1 = 5 := rfl
 have e2 : rd [1, 5, 3] 2 = 3 := rfl
 unfold kindR readR
 by_cases g1 : w0 = moveL
 ·have n0 : ¬ w0 = dashL := by rw [g1]; decide
  simp only [if_neg n0, if_pos g1, if_neg (hb3 1 (by omega) (by omega)).1, if_pos (show (0 : Int) ≤ 1 by omega), if_pos (hb3 1 (by omega) (by omega)).2, e1, if_pos c1]
  by_cases h4 : r.length = 4
  ·simp only [if_pos (show (r.length : Int) + 1 = 5 by omega), if_pos h4]
   refine Ev.bind hnum ?_
   unfold numsR
   cases hall : r.all (wordB 4) with
   | false => simp only [Bool.false_eq_true, if_false]; exact Ev.now _
   | true =>
    obtain ⟨w1, w2, w3, w4, rfl⟩ : ∃ a b c d, r = [a, b, c, d] := by
     match r, h4 with
     | [a, b, c, d], _ => exact ⟨a, b, c, d, rfl⟩
    simp only [if_true]
    exact implFin 1 (numI w1) (numI w2) (numI w3) (numI w4) (Or.inl rfl)
  ·simp only [if_neg (show ¬ (r.length : Int) + 1 = 5 by omega), if_neg h4]
   exact Ev.now _
 ·by_cases g2 : w0 = readL
  ·have n0 : ¬ w0 = dashL := by rw [g2]; decide
   simp only [if_neg n0, if_neg g1, if_pos g2, if_neg (hb3 2 (by omega) (by omega)).1, if_pos (show (0 : Int) ≤ 2 by omega), if_pos (hb3 2 (by omega) (by omega)).2, e2, if_pos c1]
   by_cases h4 : r.length = 2
   ·simp only [if_pos (show (r.length : Int) + 1 = 3 by omega), if_pos h4]
    refine Ev.bind hnum ?_
    unfold numsR
    cases hall : r.all (wordB 4) with
    | false => simp only [Bool.false_eq_true, if_false]; exact Ev.now _
    | true =>
     obtain ⟨w1, w2, rfl⟩ : ∃ a b, r = [a, b] := by
      match r, h4 with
      | [a, b], _ => exact ⟨a, b, rfl⟩
     simp only [if_true]
     exact implFin 2 (numI w1) (numI w2) 0 0 (Or.inr ⟨rfl, rfl, rfl⟩)
   ·simp only [if_neg (show ¬ (r.length : Int) + 1 = 3 by omega), if_neg h4]
    exact Ev.now _
  ·by_cases g3 : w0 = dashL
   ·simp only [if_pos g3, if_neg g1, if_neg g2, if_neg (hb3 0 (by omega) (by omega)).1, if_pos (show (0 : Int) ≤ 0 by omega), if_pos (hb3 0 (by omega) (by omega)).2, e0, if_pos c1]
    by_cases h4 : r.length = 0
    ·obtain rfl : r = [] := List.length_eq_zero_iff.1 h4
     refine Ev.bind hnum ?_
     simp only [numsR, List.all_nil, if_true, List.map_nil]
     refine Ev.step (f := fun n => impl_ReadCmd.j1 n 0 false 0 0 0 0 0) (fun k => by rw [impl_ReadCmd.j0, isAccount_f, isAccount_f, Option.bind_some]; rfl) ?_
     refine Ev.step (f := fun n => impl_ReadCmd.j2 n false 0 0 0 0 0) (fun k => by rw [impl_ReadCmd.j1, if_neg (by simp), if_neg (by omega)]) ?_
     exact j2_false 0 0 0 0 0
    ·simp only [if_neg (show ¬ (r.length : Int) + 1 = 1 by omega), if_neg h4]
     exact Ev.now _
   ·simp only [if_neg g3, if_neg g1, if_neg g2, if_pos (show (-1 : Int) < 0 by omega)]
    exact Ev.now _

def numB (n : Int) : ByteArray := ⟨(Go.Lib.itoa n).toArray⟩
theorem numB_data (n : Int) : (numB n).data.toList = Go.Lib.itoa n := rfl
theorem numB_size (n : Int) (h0 : 0 ≤ n) (h1 : n ≤ 9223372036854775807) : (numB n).size ≤ 21 := by
 rw [ba_size, numB_data]
 exact Go.Lib.itoa_length_le n (by omega) h1
theorem l1Num_ev (u : Nat) : u ≤ 9223372036854775800 → Ev (fun k => spec_l1Num.f k (u : Int)) (numB (u : Int)) := by
 induction u using Nat.strongRecOn with
 | _ u ih =>
  intro hu
  by_cases h : u < 10
  ·refine Ev.step (f := fun k => some (numB (u : Int))) (fun k => ?_) (Ev.now _)
   rw [spec_l1Num.f, if_pos (show (u : Int) < 10 by omega)]
   congr 1
   refine ba_ext ?_
   rw [numB_data, Go.Lib.itoa_nonneg, Go.Lib.decDigits, dif_pos h, strOfNums_data, wrap_small (by omega) (by omega)]
   simp only [List.map_cons, List.map_nil]
   congr 1
   rw [show ((48 + (u : Int)) % 256).toNat = 48 + u by omega]
  ·have h1 := ih (u / 10) (by omega) (by omega)
   have hd : (wrap64 (48 + Int.tmod (u : Int) 10)) % 256 = ((48 + u % 10 : Nat) : Int) := by
    rw [show Int.tmod (u : Int) 10 = ((u % 10 : Nat) : Int) by rw [show (10 : Int) = ((10 : Nat) : Int) from rfl, ← Int.ofNat_tmod], wrap_small (by omega) (by omega)]
    omega
   refine Ev.step (f := fun k => (spec_l1Num.f k ((u / 10 : Nat) : Int)).bind fun t => if t.size + (strOfNums [((48 + u % 10 : Nat) : Int)]).size ≤ 9223372036854775807 then some (t ++ strOfNums [((48 + u % 10 : Nat) : Int)]) else none) (fun k => ?_) ?_
   ·rw [spec_l1Num.f, if_neg (show ¬ (u : Int) < 10 by omega), hd, show wrap64 (Int.tdiv (u : Int) 10) = ((u / 10 : Nat) : Int) by rw [show (10 : Int) = ((10 : Nat) : Int) from rfl, ← Int.ofNat_tdiv, wrap_small (by omega) (by omega)]]
    rfl
   ·have hs := numB_size ((u / 10 : Nat) : Int) (by omega) (by omega)
    refine Ev.bind h1 (Ev.const ?_)
    rw [if_pos (by rw [strOfNums_size]; simp only [List.length_cons, List.length_nil]; omega)]
    congr 1
    refine ba_ext ?_
    rw [ba_append, numB_data, numB_data, Go.Lib.itoa_nonneg, Go.Lib.itoa_nonneg, strOfNums_data]
    conv => rhs; rw [Go.Lib.decDigits, dif_neg h]
    simp only [List.map_cons, List.map_nil, Int.toNat_natCast]
theorem numEv (n : Int) (h0 : 0 ≤ n) (h1 : n ≤ 1000000) : Ev (fun k => spec_l1Num.f k n) (numB n) := by
 obtain ⟨u, rfl⟩ : ∃ u : Nat, n = u := ⟨n.toNat, by omega⟩
 exact l1Num_ev u (by omega)

def joinB (sep : ByteArray) (l : List Int) : ByteArray := ⟨(Go.Lib.join (l.map Go.Lib.itoa) sep.data.toList).toArray⟩
theorem joinB_data (sep : ByteArray) (l : List Int) : (joinB sep l).data.toList = Go.Lib.join (l.map Go.Lib.itoa) sep.data.toList := rfl
theorem joinB_le (sep : ByteArray) (l : List Int) (hl : ∀ x ∈ l, 0 ≤ x ∧ x ≤ 1000000) : (joinB sep l).size ≤ l.length * (21 + sep.size) := by
 rw [ba_size, joinB_data, ba_size]
 have h := join_le sep.data.toList 21 (l.map Go.Lib.itoa) (fun x hx => by
  obtain ⟨y, hy, rfl⟩ := List.mem_map.1 hx
  exact Go.Lib.itoa_length_le y (by have := hl y hy; omega) (by have := hl y hy; omega))
 rwa [List.length_map] at h
theorem joinedEv (sep : ByteArray) (l : List Int) (hs : sep.size ≤ 100) (hn : l.length ≤ 1000) (hl : ∀ x ∈ l, 0 ≤ x ∧ x ≤ 1000000) : Ev (fun k => impl_joined.f k sep l) (joinB sep l) := by
 have key : ∀ (n i : Nat) (acc : List ByteArray), l.length - i = n → i ≤ l.length → acc = (l.take i).map numB → Ev (fun k => impl_joined.l0 k sep acc l (l.length : Int) (i : Int)) (joinB sep l) := by
  intro n
  induction n with
  | zero =>
   intro i acc hi hi2 ha
   obtain rfl : i = l.length := by omega
   rw [List.take_of_length_le (Nat.le_refl _)] at ha
   have hm : acc.map (·.data.toList) = l.map Go.Lib.itoa := by
    rw [ha, List.map_map]
    exact List.map_congr_left (fun x _ => numB_data x)
   have hle := joinB_le sep l hl
   have hle2 : l.length * (21 + sep.size) ≤ 1000 * 121 := Nat.mul_le_mul hn (by omega)
   rw [ba_size, joinB_data] at hle
   refine Ev.step (f := fun k => (strings_Join.f acc sep).bind fun t => some t) (fun k => by rw [impl_joined.l0, if_neg (by omega)]) ?_
   unfold strings_Join.f
   rw [hm, if_pos ⟨by rw [ha, List.length_map]; omega, by omega⟩]
   exact Ev.now _
  | succ n ih =>
   intro i acc hi hi2 ha
   have hil : i < l.length := by omega
   have hx := hl (l.getD i 0) (by rw [List.getD_eq_getElem?_getD, List.getElem?_eq_getElem hil]; exact List.getElem_mem hil)
   refine Ev.step (f := fun k => impl_joined.l0 k sep (acc ++ [numB (l.getD i 0)]) l (l.length : Int) ((i + 1 : Nat) : Int)) (fun k => ?_) (ih (i + 1) _ (by omega) (by omega) ?_)
   ·rw [impl_joined.l0, if_pos (by omega), if_pos (by omega), if_pos (by omega), rd_nat]
    unfold strconv_Itoa.f
    rw [if_pos (by omega), Option.bind_some, if_pos (by rw [ha, List.length_map, List.length_take]; omega), wrap_next hil (by omega)]
    rfl
   ·rw [ha, List.take_add_one, List.map_append, List.getD_eq_getElem?_getD, List.getElem?_eq_getElem hil]
    rfl
 have h := key l.length 0 [] (by omega) (by omega) (by simp)
 unfold impl_joined.f
 exact h

theorem specGoodCmd (k i f t a : Int) : spec_GoodCmd.f k i f t a = some (Mine.goodCmdB k i f t a) := by
 unfold spec_GoodCmd.f spec_l2Code.f Mine.goodCmdB
 simp only [l1In_f, l2Account_f, Option.bind_some]
 by_cases h0 : k = 0
 ·simp [h0]
 ·rw [if_neg h0, if_neg h0]
  by_cases h1 : k = 1
  ·rw [if_pos h1, if_pos h1, if_pos h1]
   by_cases hft : f = t
   ·cases Mine.inB 1 999 i <;> cases Mine.inB 0 3 f <;> cases Mine.inB 0 3 t <;> simp [hft]
   ·cases Mine.inB 1 999 i <;> cases Mine.inB 0 3 f <;> cases Mine.inB 0 3 t <;> cases Mine.inB 1 1000 a <;> simp [hft]
  ·rw [if_neg h1, if_neg h1, if_neg h1]
   by_cases h2 : k = 2
   ·rw [if_pos h2, if_pos h2]
    by_cases ht : t = 0
    ·cases Mine.inB 1 999 i <;> cases Mine.inB 0 3 f <;> simp [ht]
    ·cases Mine.inB 1 999 i <;> cases Mine.inB 0 3 f <;> simp [ht]
   ·rw [if_neg h2, if_neg h2]

def cmdT (k i f t a : Int) : ByteArray :=
 if k = 1 then ((((((((⟨#[109, 111, 118, 101, 32]⟩ : ByteArray) ++ numB i) ++ (⟨#[32]⟩ : ByteArray)) ++ numB f) ++ (⟨#[32]⟩ : ByteArray)) ++ numB t) ++ (⟨#[32]⟩ : ByteArray)) ++ numB a)
 else if k = 2 then ((((⟨#[114, 101, 97, 100, 32]⟩ : ByteArray) ++ numB i) ++ (⟨#[32]⟩ : ByteArray)) ++ numB f) else (⟨#[45]⟩ : ByteArray)
theorem good_in {k i f t a : Int} (h : Mine.goodCmdB k i f t a = true) : (0 ≤ i ∧ i ≤ 1000) ∧ (0 ≤ f ∧ f ≤ 1000) ∧ (0 ≤ t ∧ t ≤ 1000) ∧ (0 ≤ a ∧ a ≤ 1000) := by
 unfold Mine.goodCmdB at h
 split at h
 ·simp only [Bool.and_eq_true, beq_iff_eq] at h; omega
 ·split at h
  ·simp only [Bool.and_eq_true, Mine.inB_iff] at h; omega
  ·split at h
   ·simp only [Bool.and_eq_true, Mine.inB_iff, beq_iff_eq] at h; omega
   ·cases h
theorem specText_ev {k i f t a : Int} (h : Mine.goodCmdB k i f t a = true) : Ev (fun n => spec_l2Text.f n k i f t a) (cmdT k i f t a) := by
 obtain ⟨h1, h2, h3, h4⟩ := good_in h
 have s1 := numB_size i (by omega) (by omega)
 have s2 := numB_size f (by omega) (by omega)
 have s3 := numB_size t (by omega) (by omega)
 have s4 := numB_size a (by omega) (by omega)
 have m1 : (⟨#[109, 111, 118, 101, 32]⟩ : ByteArray).size = 5 := rfl
 have m2 : (⟨#[114, 101, 97, 100, 32]⟩ : ByteArray).size = 5 := rfl
 have m3 : (⟨#[32]⟩ : ByteArray).size = 1 := rfl
 unfold spec_l2Text.f cmdT
 by_cases hk : k = 1
 ·simp only [if_pos hk, ByteArray.size_append, m1, m3]
  refine Ev.bind (numEv i (by omega) (by omega)) ?_
  simp (disch := omega) only [if_pos]
  refine Ev.bind (numEv f (by omega) (by omega)) ?_
  simp (disch := omega) only [if_pos]
  refine Ev.bind (numEv t (by omega) (by omega)) ?_
  simp (disch := omega) only [if_pos]
  refine Ev.bind (numEv a (by omega) (by omega)) ?_
  simp (disch := omega) only [if_pos]
  exact Ev.now _
 ·simp only [if_neg hk]
  by_cases hk2 : k = 2
  ·simp only [if_pos hk2, ByteArray.size_append, m2, m3]
   refine Ev.bind (numEv i (by omega) (by omega)) ?_
   simp (disch := omega) only [if_pos]
   refine Ev.bind (numEv f (by omega) (by omega)) ?_
   simp (disch := omega) only [if_pos]
   exact Ev.now _
  ·simp only [if_neg hk2]
   exact Ev.now _
theorem implText_ev {k i f t a : Int} (h : Mine.goodCmdB k i f t a = true) : Ev (fun n => impl_cmdText.f n k i f t a) (cmdT k i f t a) := by
 obtain ⟨h1, h2, h3, h4⟩ := good_in h
 unfold impl_cmdText.f impl_spelled.f
 by_cases hk : k = 1
 ·have hl : ∀ x ∈ [i, f, t, a], 0 ≤ x ∧ x ≤ 1000000 := by
   intro x hx
   simp only [List.mem_cons, List.mem_nil_iff, or_false] at hx
   omega
  have hz := joinB_le (⟨#[32]⟩ : ByteArray) [i, f, t, a] hl
  have hz2 : (joinB (⟨#[32]⟩ : ByteArray) [i, f, t, a]).size ≤ 1000 := Nat.le_trans hz (show 4 * (21 + 1) ≤ 1000 by decide)
  simp only [if_pos hk]
  refine Ev.bind (Ev.bind (joinedEv _ _ (by decide) (by simp) hl) (Ev.now _)) ?_
  refine Ev.const ?_
  rw [if_pos (by omega)]
  congr 1
  refine ba_ext ?_
  unfold cmdT
  rw [if_pos hk]
  simp only [ba_append, joinB_data, numB_data, List.map_cons, List.map_nil, Go.Lib.join_cons, Go.Lib.joinTail, List.flatten_cons, List.flatten_nil, List.append_assoc, List.append_nil]
 ·by_cases hk2 : k = 2
  ·have hl : ∀ x ∈ [i, f], 0 ≤ x ∧ x ≤ 1000000 := by
    intro x hx
    simp only [List.mem_cons, List.mem_nil_iff, or_false] at hx
    omega
   have hz := joinB_le (⟨#[32]⟩ : ByteArray) [i, f] hl
   have hz2 : (joinB (⟨#[32]⟩ : ByteArray) [i, f]).size ≤ 1000 := Nat.le_trans hz (show 2 * (21 + 1) ≤ 1000 by decide)
   simp only [if_neg hk, if_pos hk2]
   refine Ev.bind (Ev.bind (joinedEv _ _ (by decide) (by simp) hl) (Ev.now _)) ?_
   refine Ev.const ?_
   rw [if_pos (by omega)]
   congr 1
   refine ba_ext ?_
   unfold cmdT
   rw [if_neg hk, if_pos hk2]
   simp only [ba_append, joinB_data, numB_data, List.map_cons, List.map_nil, Go.Lib.join_cons, Go.Lib.joinTail, List.flatten_cons, List.flatten_nil, List.append_assoc, List.append_nil]
  ·simp only [if_neg hk, if_neg hk2]
   unfold cmdT
   rw [if_neg hk, if_neg hk2]
   exact Ev.now _
def cmdTextR (k i f t a : Int) : ByteArray × Bool := if Mine.goodCmdB k i f t a = true then (cmdT k i f t a, true) else ((⟨#[]⟩ : ByteArray), false)
theorem specCmdText_ev (k i f t a : Int) : Ev (fun n => spec_CmdText.f n k i f t a) (cmdTextR k i f t a) := by
 unfold spec_CmdText.f cmdTextR
 simp only [specGoodCmd, Option.bind_some]
 cases hg : Mine.goodCmdB k i f t a with
 | false => simpa using Ev.now _
 | true =>
  simp only [if_true]
  exact Ev.bind (specText_ev hg) (Ev.now _)
theorem implCmdText_ev (k i f t a : Int) : Ev (fun n => impl_CmdText.f n k i f t a) (cmdTextR k i f t a) := by
 unfold impl_CmdText.f cmdTextR
 simp only [implGoodCmd, Option.bind_some]
 cases hg : Mine.goodCmdB k i f t a with
 | false => simpa using Ev.now _
 | true =>
  simp only [if_true]
  exact Ev.bind (implText_ev hg) (Ev.now _)

theorem decDigits_all (u : Nat) : (Go.Lib.decDigits u).all isDig = true := by
 induction u using Nat.strongRecOn with
 | _ u ih =>
  have hd : ∀ d : Nat, d < 10 → isDig (UInt8.ofNat (48 + d)) = true := by decide
  rw [Go.Lib.decDigits]
  split
  ·rename_i h
   rw [List.all_cons, List.all_nil, hd u h]
   rfl
  ·rename_i h
   rw [List.all_append, ih (u / 10) (by omega), List.all_cons, List.all_nil, hd (u % 10) (by omega)]
   rfl
theorem digit_num : ∀ d : Nat, d < 10 → (UInt8.ofNat (48 + d)).toNat - 48 = d := by decide
theorem decDigits_num (u : Nat) : numL (Go.Lib.decDigits u) = u := by
 induction u using Nat.strongRecOn with
 | _ u ih =>
  rw [Go.Lib.decDigits]
  split
  ·rename_i h
   show 10 * 0 + ((UInt8.ofNat (48 + u)).toNat - 48) = u
   rw [digit_num u h]
   omega
  ·rename_i h
   rw [numL_snoc, ih (u / 10) (by omega), digit_num (u % 10) (by omega)]
   omega
theorem decDigits_pos (u : Nat) : 1 ≤ (Go.Lib.decDigits u).length := by
 rw [Go.Lib.decDigits_length]
 exact Go.Lib.nDigits_pos u
theorem decDigits_head (u : Nat) : (Go.Lib.decDigits u).getD 0 0 = 48 → u = 0 := by
 induction u using Nat.strongRecOn with
 | _ u ih =>
  have h0 : ∀ d : Nat, d < 10 → UInt8.ofNat (48 + d) = 48 → d = 0 := by decide
  intro h
  rw [Go.Lib.decDigits] at h
  split at h
  ·rename_i hu
   exact h0 u hu h
  ·rename_i hu
   have hp := decDigits_pos (u / 10)
   rw [List.getD_eq_getElem?_getD, List.getElem?_append_left (by omega), ← List.getD_eq_getElem?_getD] at h
   have := ih (u / 10) (by omega) h
   omega
theorem decDigits_four (u : Nat) (h : u < 10000) : (Go.Lib.decDigits u).length ≤ 4 := by
 rw [Go.Lib.decDigits_length]
 by_cases h1 : u < 10
 ·rw [Go.Lib.nDigits_small h1]; omega
 ·rw [Go.Lib.nDigits_big h1]
  by_cases h2 : u / 10 < 10
  ·rw [Go.Lib.nDigits_small h2]; omega
  ·rw [Go.Lib.nDigits_big h2]
   by_cases h3 : u / 10 / 10 < 10
   ·rw [Go.Lib.nDigits_small h3]; omega
   ·rw [Go.Lib.nDigits_big h3, Go.Lib.nDigits_small (show u / 10 / 10 / 10 < 10 by omega)]; omega
theorem word_of (n : Int) (h0 : 0 ≤ n) (h1 : n ≤ 1000) : wordB 4 (Go.Lib.itoa n) = true ∧ numI (Go.Lib.itoa n) = n ∧ ∀ x ∈ Go.Lib.itoa n, x ≠ 32 ∧ x ≠ 44 ∧ x ≠ 58 := by
 obtain ⟨u, rfl⟩ : ∃ u : Nat, n = u := ⟨n.toNat, by omega⟩
 rw [Go.Lib.itoa_nonneg]
 have ha := decDigits_all u
 refine ⟨?_, by unfold numI; rw [decDigits_num], fun x hx => ?_⟩
 ·unfold wordB
  rw [decide_eq_true (show 1 ≤ (Go.Lib.decDigits u).length ∧ (Go.Lib.decDigits u).length ≤ 4 from ⟨decDigits_pos u, decDigits_four u (by omega)⟩), ha]
  by_cases hz : (Go.Lib.decDigits u).getD 0 0 = 48
  ·have := decDigits_head u hz
   subst this
   rw [decide_eq_false (show ¬ 1 < (Go.Lib.decDigits 0).length by rw [Go.Lib.decDigits]; decide), Bool.and_false]
   rfl
  ·rw [decide_eq_false hz]
   rfl
 ·have h := List.all_eq_true.1 ha x hx
  unfold isDig at h
  rw [decide_eq_true_eq] at h
  refine ⟨fun e => ?_, fun e => ?_, fun e => ?_⟩ <;> (subst e; revert h; decide)
theorem read_text {k i f t a : Int} (h : Mine.goodCmdB k i f t a = true) : ∃ w0 r, cutL 32 [] (cmdT k i f t a).data.toList = w0 :: r ∧ readR w0 r = (k, i, f, t, a, 0, true) := by
 obtain ⟨h1, h2, h3, h4⟩ := good_in h
 obtain ⟨p1, q1, n1⟩ := word_of i h1.1 h1.2
 obtain ⟨p2, q2, n2⟩ := word_of f h2.1 h2.2
 obtain ⟨p3, q3, n3⟩ := word_of t h3.1 h3.2
 obtain ⟨p4, q4, n4⟩ := word_of a h4.1 h4.2
 unfold cmdT
 by_cases hk : k = 1
 ·subst hk
  refine ⟨moveL, [Go.Lib.itoa i, Go.Lib.itoa f, Go.Lib.itoa t, Go.Lib.itoa a], ?_, ?_⟩
  ·rw [if_pos rfl]
   simp only [ba_append, numB_data]
   rw [show ([109, 111, 118, 101, 32] : List UInt8) = moveL ++ [32] from rfl]
   simp only [List.append_assoc, List.singleton_append, List.cons_append, List.nil_append]
   rw [cutL_hit 32 _ moveL [] (by decide), cutL_hit 32 _ _ [] (fun x hx => (n1 x hx).1), cutL_hit 32 _ _ [] (fun x hx => (n2 x hx).1), cutL_hit 32 _ _ [] (fun x hx => (n3 x hx).1), cutL_none 32 _ [] (fun x hx => (n4 x hx).1)]
   simp only [List.nil_append]
  ·unfold readR
   rw [if_pos rfl, if_pos (show ([Go.Lib.itoa i, Go.Lib.itoa f, Go.Lib.itoa t, Go.Lib.itoa a] : List (List UInt8)).length = 4 from rfl), if_pos (by simp [p1, p2, p3, p4])]
   show finR 1 (numI (Go.Lib.itoa i)) (numI (Go.Lib.itoa f)) (numI (Go.Lib.itoa t)) (numI (Go.Lib.itoa a)) = _
   rw [q1, q2, q3, q4]
   unfold Mine.goodCmdB at h
   rw [if_neg (by omega), if_pos rfl] at h
   simp only [Bool.and_eq_true, Bool.not_eq_true', beq_eq_false_iff_ne] at h
   obtain ⟨g1, g2, g3, g4, g5⟩ := h
   unfold finR codeR
   rw [g1, g2, g3, g5]
   simp [g4]
 ·by_cases hk2 : k = 2
  ·subst hk2
   refine ⟨readL, [Go.Lib.itoa i, Go.Lib.itoa f], ?_, ?_⟩
   ·rw [if_neg hk, if_pos rfl]
    simp only [ba_append, numB_data]
    rw [show ([114, 101, 97, 100, 32] : List UInt8) = readL ++ [32] from rfl]
    simp only [List.append_assoc, List.singleton_append, List.cons_append, List.nil_append]
    rw [cutL_hit 32 _ readL [] (by decide), cutL_hit 32 _ _ [] (fun x hx => (n1 x hx).1), cutL_none 32 _ [] (fun x hx => (n2 x hx).1)]
    simp only [List.nil_append]
   ·unfold readR
    rw [if_neg (by decide), if_pos rfl, if_pos (show ([Go.Lib.itoa i, Go.Lib.itoa f] : List (List UInt8)).length = 2 from rfl), if_pos (by simp [p1, p2])]
    show finR 2 (numI (Go.Lib.itoa i)) (numI (Go.Lib.itoa f)) 0 0 = _
    rw [q1, q2]
    unfold Mine.goodCmdB at h
    rw [if_neg (by omega), if_neg (by omega), if_pos rfl] at h
    simp only [Bool.and_eq_true, beq_iff_eq] at h
    obtain ⟨g1, g2, g3, g4⟩ := h
    unfold finR codeR
    rw [g1, g2, g3, g4]
    simp
  ·have hk0 : k = 0 := by
    unfold Mine.goodCmdB at h
    split at h
    ·assumption
    ·first | cases h | (rw [if_neg hk, if_neg hk2] at h; cases h)
   subst hk0
   unfold Mine.goodCmdB at h
   rw [if_pos rfl] at h
   simp only [Bool.and_eq_true, beq_iff_eq] at h
   obtain ⟨g1, g2, g3, g4⟩ := h
   refine ⟨dashL, [], ?_, ?_⟩
   ·rw [if_neg hk, if_neg hk2]
    rfl
   ·rw [g1, g2, g3, g4]
    rfl

/-! what the cursor of the draws gives -/
theorem and255 (x : Int) : 0 ≤ wrap64 (Go.bits .and .u64 x 255) ∧ wrap64 (Go.bits .and .u64 x 255) ≤ 255 := by
 have h : ∃ n : Nat, n ≤ 255 ∧ Go.bits .and .u64 x 255 = (n : Int) := by
  refine ⟨(BitVec.ofInt 64 x &&& BitVec.ofInt 64 255).toNat, ?_, ?_⟩
  ·rw [BitVec.toNat_and]
   exact Nat.le_trans (Nat.and_le_right) (by decide)
  ·have hle : (BitVec.ofInt 64 x &&& BitVec.ofInt 64 255).toNat ≤ 255 := by
    rw [BitVec.toNat_and]; exact Nat.le_trans (Nat.and_le_right) (by decide)
   show IntKind.u64.wrap (((BitVec.ofInt 64 x &&& BitVec.ofInt 64 255).toNat : Nat) : Int) = _
   generalize (BitVec.ofInt 64 x &&& BitVec.ofInt 64 255).toNat = m at hle
   simp [IntKind.wrap, IntKind.min, IntKind.max, IntKind.signed, IntKind.bits]
   omega
 obtain ⟨n, hn, e⟩ := h
 rw [e]
 unfold wrap64
 omega
theorem u8s {l : List Int} (h : ∀ y ∈ l, (Lit.int .u8 y).wf = true) : ∀ y ∈ l, 0 ≤ y ∧ y ≤ 255 := by
 intro y hy
 have := h y hy
 simp [Lit.wf, IntKind.min, IntKind.max, IntKind.signed, IntKind.bits] at this
 omega
theorem rd_mem {l : List Int} {a : Int} (h0 : 0 ≤ a) (h : a < (l.length : Int)) : rd l a ∈ l := by
 unfold rd
 rw [List.getD_eq_getElem?_getD, List.getElem?_eq_getElem (show a.toNat < l.length by omega)]
 exact List.getElem_mem _
theorem next_ok (l : List Int) (a s : Int) (hu : ∀ y ∈ l, 0 ≤ y ∧ y ≤ 255) (h0 : 0 ≤ a) (h1 : a ≤ 4611686018427387904) : ∃ v s', spec_l1Cur_next.f l a s = some (v, a + 1, s') ∧ 0 ≤ v ∧ v ≤ 255 := by
 have hw : wrap64 (a + 1) = a + 1 := by unfold wrap64; omega
 unfold spec_l1Cur_next.f
 rw [hw]
 by_cases h : a < (l.length : Int)
 ·rw [if_pos h, if_pos h0, if_pos (by omega)]
  have := hu _ (rd_mem h0 h)
  exact ⟨_, _, rfl, by unfold wrap64; omega, by unfold wrap64; omega⟩
 ·rw [if_neg h, if_neg (by omega)]
  exact ⟨_, _, rfl, (and255 _).1, (and255 _).2⟩
theorem pick_ok (l : List Int) (a s n : Int) (hu : ∀ y ∈ l, 0 ≤ y ∧ y ≤ 255) (h0 : 0 ≤ a) (h1 : a ≤ 2305843009213693952) (hn : 1 ≤ n) (hn' : n ≤ 65536) : ∃ v a' s', spec_l1Cur_pick.f l a s n = some (v, a', s') ∧ 0 ≤ v ∧ v < n ∧ a ≤ a' ∧ a' ≤ a + 2 := by
 unfold spec_l1Cur_pick.f
 by_cases h : n ≤ 1
 ·rw [if_pos h]; exact ⟨0, a, s, rfl, by omega, by omega, by omega, by omega⟩
 rw [if_neg h]
 obtain ⟨v, s', e, hv, hv'⟩ := next_ok l a s hu h0 (by omega)
 rw [e, Option.bind_some]
 dsimp only
 by_cases h2 : n > 200
 ·rw [if_pos h2]
  obtain ⟨v2, s2, e2, hv2, hv2'⟩ := next_ok l (a + 1) s' hu (by omega) (by omega)
  rw [e2, Option.bind_some, if_neg (by omega)]
  have hw : wrap64 (wrap64 (v * 256) + v2) = v * 256 + v2 := by unfold wrap64; omega
  dsimp only
  rw [hw]
  exact ⟨_, _, _, rfl, Int.tmod_nonneg _ (by omega), Int.tmod_lt_of_pos _ (by omega), by omega, by omega⟩
 ·rw [if_neg h2, if_neg (by omega)]
  exact ⟨_, _, _, rfl, Int.tmod_nonneg _ hv, Int.tmod_lt_of_pos _ (by omega), by omega, by omega⟩

theorem ext_take (t : ByteArray) (i : Nat) (h : i ≤ t.size) : (t.extract 0 i).size = i := by
 rw [ByteArray.size_extract]
 omega
theorem ext_drop (t : ByteArray) (i : Nat) (h : i ≤ t.size) : (t.extract i t.size).size = t.size - i := by
 rw [ByteArray.size_extract]
 omega
theorem spoilt_l (wi : ByteArray) (hw : 1 ≤ wi.size) (hw2 : wi.size ≤ 1000) (l : List Int) (hu : ∀ y ∈ l, 0 ≤ y ∧ y ≤ 255) : ∀ (n : Nat), n ≤ 2 → ∀ (t : ByteArray) (a s : Int), t.size + n ≤ 1000 → 0 ≤ a → a + 6 * (n : Int) ≤ 1000000000 →
  ∃ r a' s', Ev (fun k => spec_l1Cur_spoilt.l0 k t wi (n : Int) l a s) (r, a', s') ∧ r.size ≤ t.size + n := by
 intro n
 induction n with
 | zero =>
  intro _ t a s ht h0 h1
  refine ⟨t, a, s, ?_, by omega⟩
  refine Ev.step (f := fun k => spec_l1Cur_spoilt.j1 k t wi ((0 : Nat) : Int) false l a s) (fun k => by rw [spec_l1Cur_spoilt.l0, if_neg (by omega)]) ?_
  exact Ev.step (f := fun k => some (t, a, s)) (fun k => by rw [spec_l1Cur_spoilt.j1, if_neg (by simp)]) (Ev.now _)
 | succ n ih =>
  intro hn t a s ht h0 h1
  have hpos : ((n + 1 : Nat) : Int) > 0 := by omega
  by_cases hz : (t.size : Int) > 0
  ·obtain ⟨v, a1, s1, e1, p1, p2, p3, p4⟩ := pick_ok l a s (t.size : Int) hu h0 (by omega) (by omega) (by omega)
   obtain ⟨u, a2, s2, e2, q1, q2, q3, q4⟩ := pick_ok l a1 s1 (wi.size : Int) hu (by omega) (by omega) (by omega) (by omega)
   obtain ⟨x, a3, s3, e3, x1, x2, x3, x4⟩ := pick_ok l a2 s2 3 hu (by omega) (by omega) (by omega) (by omega)
   have hi : v.toNat ≤ t.size := by omega
   have hi1 : v.toNat + 1 ≤ t.size := by omega
   have z1 := ext_take t v.toNat hi
   have z2 := ext_drop t v.toNat hi
   have z3 := ext_drop t (v.toNat + 1) hi1
   have w1 : wrap64 (v + 1) = v + 1 := by unfold wrap64; omega
   have w2 : (v + 1 : Int).toNat = v.toNat + 1 := by omega
   have w3 : wrap64 (((n + 1 : Nat) : Int) - 1) = (n : Int) := by unfold wrap64; omega
   have sz : (strOfNums [bt wi u]).size = 1 := strOfNums_size _
   have go : ∀ (t2 : ByteArray), (∀ k, spec_l1Cur_spoilt.j1 (k + 1) t wi ((n + 1 : Nat) : Int) true l a s = spec_l1Cur_spoilt.l0 k t2 wi (n : Int) l a3 s3) → t2.size ≤ t.size + 1 → t2.size + n ≤ 1000 →
     ∃ r a' s', Ev (fun k => spec_l1Cur_spoilt.l0 k t wi ((n + 1 : Nat) : Int) l a s) (r, a', s') ∧ r.size ≤ t.size + (n + 1) := by
    intro t2 hj hs hs2
    obtain ⟨r, a', s', hr, hl⟩ := ih (by omega) t2 a3 s3 hs2 (by omega) (by omega)
    refine ⟨r, a', s', ?_, by omega⟩
    refine Ev.step (f := fun k => spec_l1Cur_spoilt.j1 k t wi ((n + 1 : Nat) : Int) true l a s) (fun k => by rw [spec_l1Cur_spoilt.l0, if_pos hpos, decide_eq_true hz]) ?_
    exact Ev.step hj hr
   have hj0 : ∀ k, spec_l1Cur_spoilt.j1 (k + 1) t wi ((n + 1 : Nat) : Int) true l a s = (if x = 0 then spec_l1Cur_spoilt.l0 k (((t.extract 0 v.toNat) ++ (strOfNums [bt wi u])) ++ (t.extract v.toNat t.size)) wi (n : Int) l a3 s3 else if x = 1 then spec_l1Cur_spoilt.l0 k (((t.extract 0 v.toNat) ++ (strOfNums [bt wi u])) ++ (t.extract (v.toNat + 1) t.size)) wi (n : Int) l a3 s3 else spec_l1Cur_spoilt.l0 k ((t.extract 0 v.toNat) ++ (t.extract (v.toNat + 1) t.size)) wi (n : Int) l a3 s3) := by
    intro k
    rw [spec_l1Cur_spoilt.j1, if_pos rfl, e1, Option.bind_some]
    dsimp only
    rw [e2, Option.bind_some]
    dsimp only
    rw [if_pos q1, if_pos q2, Option.bind_some, e3, Option.bind_some]
    dsimp only
    rw [w1, w2, w3]
    by_cases hx0 : x = 0
    ·rw [if_pos hx0, if_pos hx0, if_pos p1, if_pos (by omega), if_pos (by omega), if_pos (by rw [ByteArray.size_append]; omega)]
    ·rw [if_neg hx0, if_neg hx0]
     by_cases hx1 : x = 1
     ·rw [if_pos hx1, if_pos hx1, if_pos p1, if_pos (by omega), if_pos (by omega), if_pos (by omega), if_pos (by omega), if_pos (by rw [ByteArray.size_append]; omega)]
     ·rw [if_neg hx1, if_neg hx1, if_pos p1, if_pos (by omega), if_pos (by omega), if_pos (by omega), if_pos (by omega)]
   by_cases hx0 : x = 0
   ·exact go _ (fun k => by rw [hj0, if_pos hx0]) (by rw [ByteArray.size_append, ByteArray.size_append]; omega) (by rw [ByteArray.size_append, ByteArray.size_append]; omega)
   ·by_cases hx1 : x = 1
    ·exact go _ (fun k => by rw [hj0, if_neg hx0, if_pos hx1]) (by rw [ByteArray.size_append, ByteArray.size_append]; omega) (by rw [ByteArray.size_append, ByteArray.size_append]; omega)
    ·exact go _ (fun k => by rw [hj0, if_neg hx0, if_neg hx1]) (by rw [ByteArray.size_append]; omega) (by rw [ByteArray.size_append]; omega)
  ·refine ⟨t, a, s, ?_, by omega⟩
   refine Ev.step (f := fun k => spec_l1Cur_spoilt.j1 k t wi ((n + 1 : Nat) : Int) false l a s) (fun k => by rw [spec_l1Cur_spoilt.l0, if_pos hpos, decide_eq_false hz]) ?_
   exact Ev.step (f := fun k => some (t, a, s)) (fun k => by rw [spec_l1Cur_spoilt.j1, if_neg (by simp)]) (Ev.now _)
theorem spoilt_ok (wi : ByteArray) (hw : 1 ≤ wi.size) (hw2 : wi.size ≤ 1000) (l : List Int) (hu : ∀ y ∈ l, 0 ≤ y ∧ y ≤ 255) (t : ByteArray) (a s : Int) (ht : t.size ≤ 900) (h0 : 0 ≤ a) (h1 : a ≤ 100000000) :
  ∃ r a' s', Ev (fun k => spec_l1Cur_spoilt.f k l a s t wi) (r, a', s') ∧ r.size ≤ 902 := by
 obtain ⟨v, a1, s1, e1, p1, p2, p3, p4⟩ := pick_ok l a s 2 hu h0 (by omega) (by omega) (by omega)
 obtain ⟨r, a', s', hr, hl⟩ := spoilt_l wi hw hw2 l hu (v.toNat + 1) (by omega) t a1 s1 (by omega) (by omega) (by omega)
 refine ⟨r, a', s', ?_, by omega⟩
 have w1 : wrap64 (1 + v) = ((v.toNat + 1 : Nat) : Int) := by unfold wrap64; omega
 unfold spec_l1Cur_spoilt.f
 rw [e1]
 simp only [Option.bind_some, w1]
 exact hr

theorem among_ok (l : List Int) (a s : Int) (xs : List Int) (hu : ∀ y ∈ l, 0 ≤ y ∧ y ≤ 255) (h0 : 0 ≤ a) (h1 : a ≤ 2305843009213693952) (hn : 1 ≤ xs.length) (hn' : xs.length ≤ 65536) : ∃ v a' s', spec_l1Cur_among.f l a s xs = some (v, a', s') ∧ v ∈ xs ∧ a ≤ a' ∧ a' ≤ a + 2 := by
 unfold spec_l1Cur_among.f
 obtain ⟨v, a', s', e, hv, hv', ha, ha'⟩ := pick_ok l a s (xs.length : Int) hu h0 h1 (by omega) (by omega)
 rw [e, Option.bind_some]
 dsimp only
 rw [if_pos hv, if_pos hv']
 exact ⟨_, _, _, rfl, rd_mem hv hv', ha, ha'⟩

theorem one_ok (l : List Int) (a s n : Int) (hu : ∀ y ∈ l, 0 ≤ y ∧ y ≤ 255) (h0 : 0 ≤ a) (h1 : a ≤ 2305843009213693952) (hn : 1 ≤ n) (hn' : n ≤ 65536) : ∃ v a' s', spec_l1Cur_one.f l a s n = some (v, a', s') ∧ a ≤ a' ∧ a' ≤ a + 2 := by
 unfold spec_l1Cur_one.f
 obtain ⟨v, a', s', e, _, _, ha, ha'⟩ := pick_ok l a s n hu h0 h1 hn hn'
 rw [e, Option.bind_some]
 exact ⟨_, _, _, rfl, ha, ha'⟩
theorem cmd_ok (l : List Int) (a s : Int) (hu : ∀ y ∈ l, 0 ≤ y ∧ y ≤ 255) (h0 : 0 ≤ a) (h1 : a ≤ 1152921504606846976) : ∃ k i f t m a' s', spec_l1Cur_cmd.f l a s = some (k, i, f, t, m, a', s') ∧ Mine.goodCmdB k i f t m = true ∧ a ≤ a' ∧ a' ≤ a + 10 := by
 unfold spec_l1Cur_cmd.f
 obtain ⟨v1, a1, s1, e1, p1, q1, x1, y1⟩ := pick_ok l a s 9 hu h0 (by omega) (by omega) (by omega)
 rw [e1, Option.bind_some]
 obtain ⟨v2, a2, s2, e2, p2, q2, x2, y2⟩ := pick_ok l a1 s1 4 hu (by omega) (by omega) (by omega) (by omega)
 dsimp only
 rw [e2, Option.bind_some]
 obtain ⟨v3, a3, s3, e3, p3, q3, x3, y3⟩ := pick_ok l a2 s2 30 hu (by omega) (by omega) (by omega) (by omega)
 dsimp only
 rw [e3, Option.bind_some]
 obtain ⟨v4, a4, s4, e4, p4, q4, x4, y4⟩ := pick_ok l a3 s3 3 hu (by omega) (by omega) (by omega) (by omega)
 dsimp only
 rw [e4, Option.bind_some]
 obtain ⟨v5, a5, s5, e5, x5, y5⟩ := one_ok l a4 s4 4 hu (by omega) (by omega) (by omega) (by omega)
 dsimp only
 rw [e5, Option.bind_some]
 dsimp only
 have w1 : wrap64 (1 + v1) = 1 + v1 := by unfold wrap64; omega
 have w2 : wrap64 (1 + v3) = 1 + v3 := by unfold wrap64; omega
 have w3 : wrap64 (wrap64 (v2 + 1) + v4) = v2 + 1 + v4 := by unfold wrap64; omega
 rw [w1, w2, w3]
 have m0 : Int.tmod (v2 + 1 + v4) 4 = (v2 + 1 + v4) % 4 := Int.tmod_eq_emod_of_nonneg (by omega)
 rw [m0]
 cases v5 with
 | true => exact ⟨_, _, _, _, _, _, _, rfl, by unfold Mine.goodCmdB Mine.inB; simp; omega, by omega, by omega⟩
 | false => exact ⟨_, _, _, _, _, _, _, rfl, by unfold Mine.goodCmdB Mine.inB; simp; omega, by omega, by omega⟩
theorem anyCmd_ok (l : List Int) (a s : Int) (hu : ∀ y ∈ l, 0 ≤ y ∧ y ≤ 255) (h0 : 0 ≤ a) (h1 : a ≤ 1000000000000) : ∃ k i f t m a' s', spec_l1Cur_anyCmd.f l a s = some (k, i, f, t, m, a', s') ∧ a ≤ a' ∧ a' ≤ a + 20 := by
 unfold spec_l1Cur_anyCmd.f
 obtain ⟨k, i, f, t, m, a1, s1, e1, _, x1, y1⟩ := cmd_ok l a s hu h0 (by omega)
 rw [e1, Option.bind_some]
 obtain ⟨v2, a2, s2, e2, p2, q2, x2, y2⟩ := pick_ok l a1 s1 20 hu (by omega) (by omega) (by omega) (by omega)
 dsimp only
 rw [e2, Option.bind_some]
 dsimp only
 have am : ∀ xs : List Int, 1 ≤ xs.length → xs.length ≤ 65536 → ∃ v a' s', spec_l1Cur_among.f l a2 s2 xs = some (v, a', s') ∧ a2 ≤ a' ∧ a' ≤ a2 + 2 := fun xs hx hx' => by
  obtain ⟨v, a', s', e, _, ha, ha'⟩ := among_ok l a2 s2 xs hu (by omega) (by omega) hx hx'
  exact ⟨v, a', s', e, ha, ha'⟩
 split
 ·exact ⟨_, _, _, _, _, _, _, rfl, by first | omega | (dsimp only; omega), by first | omega | (dsimp only; omega)⟩
 split
 ·exact ⟨_, _, _, _, _, _, _, rfl, by first | omega | (dsimp only; omega), by first | omega | (dsimp only; omega)⟩
 split
 ·obtain ⟨v, a3, s3, e3, x3, y3⟩ := am [0, 999, 1000] (by decide) (by decide)
  rw [e3, Option.bind_some]; exact ⟨_, _, _, _, _, _, _, rfl, by first | omega | (dsimp only; omega), by first | omega | (dsimp only; omega)⟩
 split
 ·obtain ⟨v, a3, s3, e3, x3, y3⟩ := am [0, 1000, 1001] (by decide) (by decide)
  rw [e3, Option.bind_some]; exact ⟨_, _, _, _, _, _, _, rfl, by first | omega | (dsimp only; omega), by first | omega | (dsimp only; omega)⟩
 split
 ·obtain ⟨v, a3, s3, e3, x3, y3⟩ := am [-1, 4] (by decide) (by decide)
  rw [e3, Option.bind_some]; exact ⟨_, _, _, _, _, _, _, rfl, by first | omega | (dsimp only; omega), by first | omega | (dsimp only; omega)⟩
 split
 ·obtain ⟨v, a3, s3, e3, _, _, x3, y3⟩ := pick_ok l a2 s2 4 hu (by omega) (by omega) (by omega) (by omega)
  rw [e3, Option.bind_some]; exact ⟨_, _, _, _, _, _, _, rfl, by first | omega | (dsimp only; omega), by first | omega | (dsimp only; omega)⟩
 ·exact ⟨_, _, _, _, _, _, _, rfl, by first | omega | (dsimp only; omega), by first | omega | (dsimp only; omega)⟩

def common (x y : List Int) : Bool := Mine.anyP (fun k => Mine.anyP (fun z => z == k) y) x
def putL : List Int → Int → List Int
 | [], n => [n]
 | x :: xs, n => if x < n then x :: putL xs n else if x = n then x :: xs else n :: x :: xs
theorem putL_length (n : Int) : ∀ l : List Int, (putL l n).length ≤ l.length + 1
 | [] => by simp [putL]
 | x :: xs => by
  have := putL_length n xs
  unfold putL
  split
  ·simp; omega
  ·split <;> simp

def touchL (k f t : Int) : List Int := if k = 1 then putL [f] t else if k = 2 then [f] else []
theorem touchL_length (k f t : Int) : (touchL k f t).length ≤ 2 := by
 unfold touchL
 split
 ·exact putL_length t [f]
 ·split <;> simp
theorem good_parts {k i f t a : Int} (h : Mine.goodCmdB k i f t a = true) : (k = 0 ∧ i = 0 ∧ f = 0 ∧ t = 0 ∧ a = 0) ∨ (k = 1 ∧ (1 ≤ i ∧ i ≤ 999) ∧ (0 ≤ f ∧ f ≤ 3) ∧ (0 ≤ t ∧ t ≤ 3) ∧ f ≠ t ∧ (1 ≤ a ∧ a ≤ 1000)) ∨ (k = 2 ∧ (1 ≤ i ∧ i ≤ 999) ∧ (0 ≤ f ∧ f ≤ 3) ∧ t = 0 ∧ a = 0) := by
 unfold Mine.goodCmdB at h
 by_cases h0 : k = 0
 ·rw [if_pos h0] at h; simp at h; exact .inl ⟨h0, h.1, h.2.1, h.2.2.1, h.2.2.2⟩
 ·rw [if_neg h0] at h
  by_cases h1 : k = 1
  ·rw [if_pos h1] at h
   simp only [Bool.and_eq_true, Mine.inB_iff, Bool.not_eq_true', beq_eq_false_iff_ne] at h
   exact .inr (.inl ⟨h1, h.1, h.2.1, h.2.2.1, h.2.2.2.1, h.2.2.2.2⟩)
  ·rw [if_neg h1] at h
   by_cases h2 : k = 2
   ·rw [if_pos h2] at h
    simp only [Bool.and_eq_true, Mine.inB_iff, beq_iff_eq] at h
    exact .inr (.inr ⟨h2, h.1, h.2.1, h.2.2.1, h.2.2.2⟩)
   ·rw [if_neg h2] at h; simp at h

theorem implTouches_f (k0 i f t a : Int) (h : Mine.goodCmdB k0 i f t a = true) : impl_touches.f k0 i f t a = some (touchL k0 f t) := by
 unfold impl_touches.f touchL
 rcases good_parts h with ⟨rfl, _⟩ | ⟨rfl, _, _, _, hne, _⟩ | ⟨rfl, _⟩
 ·simp
 ·simp only [if_true, putL]
  by_cases hlt : f < t
  ·rw [if_pos hlt]; simp only [Option.some.injEq, List.cons.injEq, and_true]; unfold mn mx; constructor <;> omega
  ·rw [if_neg hlt, if_neg hne]; simp only [Option.some.injEq, List.cons.injEq, and_true]; unfold mn mx; constructor <;> omega
 ·simp

def idxI (n : Int) : List Int → Int → Int
 | [], _ => -1
 | x :: xs, i => if n = x then i else idxI n xs (i + 1)
theorem index_l (xs : List Int) (n : Int) (hm : xs.length ≤ 9223372036854775807) : ∀ (d i : Nat), xs.length - i = d → Ev (fun k => slices_Index_int_int.l0 k xs n (xs.length : Int) (i : Int)) (idxI n (xs.drop i) i) := by
 intro d
 induction d with
 | zero => intro i hd; rw [List.drop_eq_nil_of_le (by omega)]; exact Ev.step (f := fun _ => some (-1)) (fun k => by simp only [slices_Index_int_int.l0]; rw [if_neg (by omega)]) (Ev.now _)
 | succ d ih =>
  intro i hd
  have hlt : i < xs.length := by omega
  rw [Mine.drop_at xs 0 i hlt, idxI]
  have body : ∀ k, slices_Index_int_int.l0 (k + 1) xs n (xs.length : Int) (i : Int) = if n = xs.getD i 0 then some (i : Int) else slices_Index_int_int.l0 k xs n (xs.length : Int) ((i + 1 : Nat) : Int) := by
   intro k
   simp only [slices_Index_int_int.l0]
   rw [if_pos (by omega), if_pos (by omega), if_pos (by omega), rd_nat, wrap_next hlt hm]
  by_cases h : n = xs.getD i 0
  ·rw [if_pos h]; exact Ev.step (f := fun _ => some (i : Int)) (fun k => by rw [body, if_pos h]) (Ev.now _)
  ·rw [if_neg h]; exact Ev.step (fun k => by rw [body, if_neg h]) (by simpa using ih (i + 1) (by omega))
theorem idxI_any (n : Int) : ∀ (xs : List Int) (i : Int), 0 ≤ i → decide (idxI n xs i ≥ 0) = Mine.anyP (fun x => x == n) xs
 | [], i, _ => by simp [idxI, Mine.anyP]
 | x :: xs, i, hi => by
  rw [idxI, Mine.anyP_cons]
  by_cases h : n = x
  ·rw [if_pos h]; simp [h, hi]
  ·rw [if_neg h, idxI_any n xs (i + 1) (by omega)]; simp [show ¬ x = n from fun e => h e.symm]
theorem index_ev (xs : List Int) (n : Int) (hm : xs.length ≤ 9223372036854775807) : Ev (fun k => slices_Index_int_int.f k xs n) (idxI n xs 0) := by
 simpa [slices_Index_int_int.f] using index_l xs n hm _ 0 rfl

theorem contains_ev (xs : List Int) (n : Int) (hm : xs.length ≤ 9223372036854775807) : Ev (fun k => slices_Contains_int_int.f k xs n) (Mine.anyP (fun x => x == n) xs) := by
 have h := Ev.map (index_ev xs n hm) (fun t => decide (t ≥ 0))
 rw [idxI_any n xs 0 (Int.le_refl 0)] at h
 exact h

theorem anyO_ev {α : Type} (p : Nat → α → Option Bool) : ∀ (xs : List α) (q : α → Bool), (∀ x ∈ xs, Ev (fun k => p k x) (q x)) → Ev (fun k => Mine.anyO (p k) xs) (Mine.anyP q xs)
 | [], q, _ => Ev.const rfl
 | x :: xs, q, h => by
  simp only [Mine.anyO]
  refine Ev.bind (h x (by simp)) ?_
  rw [Mine.anyP_cons]
  cases hq : q x with
  | true => simpa using Ev.now true
  | false => simpa using anyO_ev p xs q (fun y hy => h y (by simp [hy]))

theorem implInterfere_ev (k0 i f t a k1 i1 f1 t1 a1 : Int) (h : Mine.goodCmdB k0 i f t a = true) (h1 : Mine.goodCmdB k1 i1 f1 t1 a1 = true) : Ev (fun k => impl_interfere.f k k0 i f t a k1 i1 f1 t1 a1) (common (touchL k0 f t) (touchL k1 f1 t1)) := by
 unfold impl_interfere.f
 simp only [implTouches_f _ _ _ _ _ h, Option.bind_some]
 have hl1 := touchL_length k1 f1 t1
 refine Ev.map (?_ : Ev (fun k => impl_interfere_1_in_c.f k (touchL k0 f t) k1 i1 f1 t1 a1) _) (fun t => t)
 unfold impl_interfere_1_in_c.f common
 refine anyO_ev (fun k x => impl_interfere_1.f k x k1 i1 f1 t1 a1) (touchL k0 f t) _ (fun x _ => ?_)
 unfold impl_interfere_1.f
 simp only [implTouches_f _ _ _ _ _ h1, Option.bind_some]
 exact Ev.map (contains_ev (touchL k1 f1 t1) x (by omega)) (fun t => t)

def interR (k i f t a k1 i1 f1 t1 a1 : Int) : Bool × Bool := if Mine.goodCmdB k i f t a = true then if Mine.goodCmdB k1 i1 f1 t1 a1 = true then (common (touchL k f t) (touchL k1 f1 t1), true) else (false, false) else (false, false)
theorem implInter_ev (k0 i f t a k1 i1 f1 t1 a1 : Int) : Ev (fun k => impl_Interfere.f k k0 i f t a k1 i1 f1 t1 a1) (interR k0 i f t a k1 i1 f1 t1 a1) := by
 unfold impl_Interfere.f interR
 simp only [Option.bind_some, implGoodCmd]
 cases hg : Mine.goodCmdB k0 i f t a with
 | false => simpa using Ev.now _
 | true =>
  cases hg1 : Mine.goodCmdB k1 i1 f1 t1 a1 with
  | false => simpa using Ev.now _
  | true =>
   simp only [if_true]
   exact Ev.map (implInterfere_ev k0 i f t a k1 i1 f1 t1 a1 hg hg1) (fun t => (t, true))

theorem l1Put_l (l : List Int) (n : Int) (hm : l.length < 17592186044400) : ∀ (d i : Nat), l.length - i = d → i ≤ l.length → Ev (fun k => spec_l1Put.l0 k l n (i : Int)) (l.take i ++ putL (l.drop i) n) := by
 intro d
 induction d with
 | zero =>
  intro i hd hi
  obtain rfl : i = l.length := by omega
  refine Ev.step (f := fun _ => some _) (fun k => ?_) (Ev.now _)
  simp only [spec_l1Put.l0]
  rw [if_neg (by omega)]
  simp only [Option.bind_some, Int.toNat_natCast, List.drop_length, List.take_length, putL, List.append_nil]
  rw [if_pos (by omega), if_pos (by omega), if_pos (by simp; omega), if_pos (by simp; omega), if_pos (by simp; omega)]
  simp
 | succ d ih =>
  intro i hd hi
  have hlt : i < l.length := by omega
  rw [Mine.drop_at l 0 i hlt, putL]
  by_cases h1 : l.getD i 0 < n
  ·rw [if_pos h1]
   have := ih (i + 1) (by omega) (by omega)
   have e : l.take (i + 1) = l.take i ++ [l.getD i 0] := by
    rw [List.take_add_one, List.getD_eq_getElem?_getD, List.getElem?_eq_getElem hlt]; rfl
   rw [e, List.append_assoc] at this
   refine Ev.step (fun k => ?_) this
   simp only [spec_l1Put.l0]
   rw [if_pos (by omega), if_pos (by omega), rd_nat, if_pos h1, wrap_next hlt (by omega)]
  ·rw [if_neg h1]
   by_cases h2 : l.getD i 0 = n
   ·rw [if_pos h2]
    refine Ev.step (f := fun _ => some _) (fun k => ?_) (Ev.now _)
    simp only [spec_l1Put.l0]
    rw [if_pos (by omega), if_pos (by omega), rd_nat, if_neg h1, if_pos h2, ← Mine.drop_at l 0 i hlt, List.take_append_drop]
   ·rw [if_neg h2]
    refine Ev.step (f := fun _ => some _) (fun k => ?_) (Ev.now _)
    have ht : (l.take i).length = i := by rw [List.length_take]; omega
    have hdr : (l.drop i).length = l.length - i := by rw [List.length_drop]
    simp only [spec_l1Put.l0]
    rw [if_pos (by omega), if_pos (by omega), rd_nat, if_neg h1, if_neg h2]
    simp only [Option.bind_some, Int.toNat_natCast, List.nil_append]
    rw [if_pos (by omega), if_pos (by simp only [List.length_nil]; omega), if_pos (by omega), if_pos (by rw [List.length_append]; simp only [List.length_cons, List.length_nil]; omega), ← Mine.drop_at l 0 i hlt]
    simp
theorem l1Put_ev (l : List Int) (n : Int) (hm : l.length < 17592186044400) : Ev (fun k => spec_l1Put.f k l n) (putL l n) := by
 have := l1Put_l l n hm _ 0 rfl (by omega)
 simpa [spec_l1Put.f] using this

theorem specTouches_ev (k0 i f t a : Int) : Ev (fun k => spec_l2Touches.f k k0 i f t a) (touchL k0 f t) := by
 unfold spec_l2Touches.f touchL
 by_cases h1 : k0 = 1
 ·simp only [if_pos h1]; exact Ev.map (l1Put_ev [f] t (by simp)) (fun t => t)
 ·simp only [if_neg h1]
  by_cases h2 : k0 = 2
  ·simp only [if_pos h2]; exact Ev.now _
  ·simp only [if_neg h2]; exact Ev.now _

theorem l1Has_ev (l : List Int) (n : Int) (hm : l.length ≤ 9223372036854775807) : Ev (fun k => spec_l1Has.f k l n) (Mine.anyP (fun x => x == n) l) := by
 have h := loop_any (fun k => spec_l1Has.l0 k n l (l.length : Int)) l 0 (fun x => x == n) true false (by
  intro i hlt
  have body : ∀ k, spec_l1Has.l0 (k + 1) n l (l.length : Int) (i : Int) = if l.getD i 0 = n then some true else spec_l1Has.l0 k n l (l.length : Int) ((i + 1 : Nat) : Int) := by
   intro k
   simp only [spec_l1Has.l0]
   rw [if_pos (by omega), if_pos (by omega), if_pos (by omega), rd_nat, wrap_next hlt hm]
  refine ⟨fun hp => Ev.step (f := fun _ => some true) (fun k => by rw [body, if_pos (by simpa using hp)]) (Ev.now _), fun hp r hr => Ev.step (fun k => by rw [body, if_neg (by simpa using hp)]) hr⟩) (fun _ => Ev.step (f := fun _ => some false) (fun k => by simp only [spec_l1Has.l0]; rw [if_neg (by omega)]) (Ev.now _))
 have e : (if Mine.anyP (fun x => x == n) l = true then true else false) = Mine.anyP (fun x => x == n) l := by cases Mine.anyP (fun x => x == n) l <;> rfl
 rw [e] at h
 exact h

theorem specInterfere_ev (k0 i f t a k1 i1 f1 t1 a1 : Int) : Ev (fun k => spec_l2Interfere.f k k0 i f t a k1 i1 f1 t1 a1) (common (touchL k0 f t) (touchL k1 f1 t1)) := by
 unfold spec_l2Interfere.f
 refine Ev.bind (specTouches_ev k0 i f t a) ?_
 have hl := touchL_length k0 f t
 have hl1 := touchL_length k1 f1 t1
 generalize touchL k0 f t = x at hl
 have h := loop_any (fun k j => spec_l2Interfere.l0 k x (x.length : Int) j k1 i1 f1 t1 a1) x 0 (fun n => Mine.anyP (fun z => z == n) (touchL k1 f1 t1)) true false (by
  intro j hj
  have body : ∀ k, spec_l2Interfere.l0 (k + 1) x (x.length : Int) (j : Int) k1 i1 f1 t1 a1 = (spec_l2Touches.f k k1 i1 f1 t1 a1).bind fun t => (spec_l1Has.f k t (x.getD j 0)).bind fun b => if b = true then some true else spec_l2Interfere.l0 k x (x.length : Int) ((j + 1 : Nat) : Int) k1 i1 f1 t1 a1 := by
   intro k
   simp only [spec_l2Interfere.l0]
   rw [if_pos (by omega), if_pos (by omega), if_pos (by omega), rd_nat, wrap_next hj (by omega)]
  have hh := l1Has_ev (touchL k1 f1 t1) (x.getD j 0) (by omega)
  refine ⟨fun hp => Ev.step body (Ev.bind (specTouches_ev k1 i1 f1 t1 a1) (Ev.bind hh ?_)), fun hp r hr => Ev.step body (Ev.bind (specTouches_ev k1 i1 f1 t1 a1) (Ev.bind hh ?_))⟩
  ·rw [hp]; simpa using Ev.now true
  ·rw [hp]; simpa using hr) (fun _ => Ev.step (f := fun _ => some false) (fun k => by simp only [spec_l2Interfere.l0]; rw [if_neg (by omega)]) (Ev.now _))
 have e : (if Mine.anyP (fun n => Mine.anyP (fun z => z == n) (touchL k1 f1 t1)) x = true then true else false) = common x (touchL k1 f1 t1) := by unfold common; cases Mine.anyP (fun n => Mine.anyP (fun z => z == n) (touchL k1 f1 t1)) x <;> rfl
 rw [e] at h
 exact h

theorem sameInts_l (xs : List Int) (hm : xs.length ≤ 9223372036854775807) : ∀ (d i : Nat), xs.length - i = d → Ev (fun k => laws_sameInts.l0 k xs xs (xs.length : Int) (i : Int)) true := by
 intro d
 induction d with
 | zero => intro i hd; exact Ev.step (f := fun _ => some true) (fun k => by simp only [laws_sameInts.l0]; rw [if_neg (by omega)]) (Ev.now _)
 | succ d ih =>
  intro i hd
  refine Ev.step (f := fun k => laws_sameInts.l0 k xs xs (xs.length : Int) ((i + 1 : Nat) : Int)) (fun k => ?_) (ih (i + 1) (by omega))
  simp only [laws_sameInts.l0]
  rw [if_pos (by omega), if_pos (by omega), if_pos (by omega), if_pos (by omega), if_pos trivial, wrap_next (n := xs.length) (by omega) hm]
theorem sameInts_ev (xs : List Int) (hm : xs.length ≤ 9223372036854775807) : Ev (fun k => laws_sameInts.f k xs xs) true := by
 refine Ev.congr (f := fun k => laws_sameInts.l0 k xs xs (xs.length : Int) ((0 : Nat) : Int)) (fun k => ?_) (sameInts_l xs hm _ 0 rfl)
 unfold laws_sameInts.f
 rw [if_pos rfl]
 rfl

def touchR (k i f t a : Int) : List Int × Bool := if Mine.goodCmdB k i f t a = true then (touchL k f t, true) else ([], false)
theorem specTouchesOf_ev (k0 i f t a : Int) : Ev (fun k => spec_TouchesOf.f k k0 i f t a) (touchR k0 i f t a) := by
 unfold spec_TouchesOf.f touchR
 simp only [specGoodCmd, Option.bind_some]
 cases hg : Mine.goodCmdB k0 i f t a with
 | true => simp only [if_true]; exact Ev.map (specTouches_ev k0 i f t a) (fun t => (t, true))
 | false => simpa using Ev.now _
theorem implTouchesOf_f (k0 i f t a : Int) : impl_TouchesOf.f k0 i f t a = some (touchR k0 i f t a) := by
 unfold impl_TouchesOf.f touchR
 rw [implGoodCmd, Option.bind_some]
 cases hg : Mine.goodCmdB k0 i f t a with
 | true => simp only [if_true]; rw [implTouches_f _ _ _ _ _ hg]; rfl
 | false => simp
theorem specInterR_ev (k0 i f t a k1 i1 f1 t1 a1 : Int) : Ev (fun k => spec_Interfere.f k k0 i f t a k1 i1 f1 t1 a1) (interR k0 i f t a k1 i1 f1 t1 a1) := by
 unfold spec_Interfere.f interR
 simp only [Option.bind_some, specGoodCmd]
 cases hg : Mine.goodCmdB k0 i f t a with
 | false => simpa using Ev.now _
 | true =>
  cases hg1 : Mine.goodCmdB k1 i1 f1 t1 a1 with
  | false => simpa using Ev.now _
  | true =>
   simp only [if_true]
   exact Ev.map (specInterfere_ev k0 i f t a k1 i1 f1 t1 a1) (fun t => (t, true))
theorem common_iff (x y : List Int) : common x y = true ↔ ∃ k, k ∈ x ∧ k ∈ y := by
 unfold common Mine.anyP
 simp only [List.any_eq_true, beq_iff_eq]
 exact ⟨fun ⟨k, hk, z, hz, e⟩ => ⟨k, hk, e ▸ hz⟩, fun ⟨k, hk, hz⟩ => ⟨k, hk, k, hz, rfl⟩⟩
theorem common_comm (x y : List Int) : common x y = common y x := by
 rw [Bool.eq_iff_iff, common_iff, common_iff]
 exact ⟨fun ⟨k, a, b⟩ => ⟨k, b, a⟩, fun ⟨k, a, b⟩ => ⟨k, b, a⟩⟩
theorem common_self (x : List Int) : common x x = decide (0 < x.length) := by
 rw [Bool.eq_iff_iff, common_iff, decide_eq_true_eq]
 cases x with
 | nil => simp
 | cons a r => simp
theorem interR_comm (k0 i f t a k1 i1 f1 t1 a1 : Int) : interR k0 i f t a k1 i1 f1 t1 a1 = interR k1 i1 f1 t1 a1 k0 i f t a := by
 unfold interR
 rw [common_comm]
 cases Mine.goodCmdB k0 i f t a <;> cases Mine.goodCmdB k1 i1 f1 t1 a1 <;> rfl
theorem cmdT_size {k i f t a : Int} (h : Mine.goodCmdB k i f t a = true) : (cmdT k i f t a).size ≤ 100 := by
 obtain ⟨h1, h2, h3, h4⟩ := good_in h
 have s1 := numB_size i (by omega) (by omega)
 have s2 := numB_size f (by omega) (by omega)
 have s3 := numB_size t (by omega) (by omega)
 have s4 := numB_size a (by omega) (by omega)
 have m1 : (⟨#[109, 111, 118, 101, 32]⟩ : ByteArray).size = 5 := rfl
 have m2 : (⟨#[114, 101, 97, 100, 32]⟩ : ByteArray).size = 5 := rfl
 have m3 : (⟨#[32]⟩ : ByteArray).size = 1 := rfl
 have m4 : (⟨#[45]⟩ : ByteArray).size = 1 := rfl
 unfold cmdT
 split
 ·simp only [ByteArray.size_append, m1, m3]; omega
 ·split
  ·simp only [ByteArray.size_append, m2, m3]; omega
  ·rw [m4]; omega
theorem readEv (s : ByteArray) (hs : s.size ≤ 1048576) : ∃ R, Ev (fun k => impl_ReadCmd.f k s) R ∧ Ev (fun k => spec_ReadCmd.f k s) R := by
 obtain ⟨w0, r, hw⟩ : ∃ w0 r, cutL 32 [] s.data.toList = w0 :: r := List.exists_cons_of_ne_nil (cutL_ne 32 _ _)
 exact ⟨readR w0 r, implRead_ev s w0 r hs hw, specRead_ev s w0 r hs hw⟩
theorem drawRead_ok (l : List Int) (hu : ∀ y ∈ l, 0 ≤ y ∧ y ≤ 255) : ∃ r, Ev (fun k => spec_DrawReadCmd.f k l) r ∧ r.size ≤ 1000 := by
 obtain ⟨k, i, f, t, m, a1, s1, e1, x1, y1⟩ := anyCmd_ok l 0 0 hu (by omega) (by omega)
 have hc := specCmdText_ev k i f t m
 have hsz : (cmdTextR k i f t m).1.size ≤ 100 := by
  unfold cmdTextR
  split
  ·rename_i hg; exact cmdT_size hg
  ·show (0 : Nat) ≤ 100; omega
 generalize cmdTextR k i f t m = ct at hc hsz
 obtain ⟨ct, cb⟩ := ct
 dsimp only at hsz
 obtain ⟨p, a2, s2, e2, p1, p2, p3, p4⟩ := pick_ok l a1 s1 4 hu (by omega) (by omega) (by omega) (by omega)
 unfold spec_DrawReadCmd.f
 rw [e1]
 simp only [Option.bind_some]
 by_cases h0 : p = 0
 ·obtain ⟨r, a3, s3, hr, hl⟩ := spoilt_ok (⟨#[48, 32, 49, 57, 109, 45]⟩ : ByteArray) (by decide) (by decide) l hu ct a2 s2 (by omega) (by omega) (by omega)
  refine ⟨r, Ev.bind hc ?_, by omega⟩
  simp only [e2, Option.bind_some, if_pos h0]
  exact Ev.map hr (fun t => t.1)
 ·by_cases h1 : p = 1
  ·obtain ⟨v, a3, s3, e3, q1, q2, q3, q4⟩ := pick_ok l a2 s2 14 hu (by omega) (by omega) (by omega) (by omega)
   have hof : spec_l1Cur_of.f l a2 s2 spec_DrawReadCmd.txt = some (rdOf ByteArray.empty spec_DrawReadCmd.txt v, a3, s3) := by
    unfold spec_l1Cur_of.f
    rw [show (spec_DrawReadCmd.txt.length : Int) = 14 from rfl, e3, Option.bind_some]
    dsimp only
    rw [if_pos q1, if_pos q2]
   have hall : ∀ x ∈ spec_DrawReadCmd.txt, x.size ≤ 1000 := by
    intro x hx
    have h : (spec_DrawReadCmd.txt.all fun x => decide (x.size ≤ 1000)) = true := by decide +kernel
    simpa using List.all_eq_true.1 h x hx
   have hmem : rdOf ByteArray.empty spec_DrawReadCmd.txt v ∈ spec_DrawReadCmd.txt := by
    unfold rdOf
    exact getD_mem_ _ _ _ (by show v.toNat < 14; omega)
   refine ⟨rdOf ByteArray.empty spec_DrawReadCmd.txt v, Ev.bind hc ?_, hall _ hmem⟩
   simp only [e2, Option.bind_some, if_neg h0, if_pos h1, hof]
   exact Ev.now _
  ·refine ⟨ct, Ev.bind hc ?_, by omega⟩
   simp only [e2, Option.bind_some, if_neg h0, if_neg h1]
   exact Ev.now _
theorem FnCmds : laws_FnCmds.Pure := by
 intro l0 l1 h0 h1
 have hu := u8s h0.2
 have hv := u8s h1.2
 unfold laws_FnCmds.Facts
 by_cases hb : laws_big.f l0 l1 = some true
 ·exact Or.inl ⟨hb, trivial⟩
 refine Or.inr ⟨?_, ?_⟩
 ·unfold laws_big.f at hb ⊢
  split
  ·rename_i h; rw [if_pos h] at hb; exact absurd rfl hb
  ·rename_i h; rw [if_neg h] at hb
   cases hd : decide ((l1.length : Int) > wrap64 (1048576 - (l0.length : Int))) with
   | true => rw [hd] at hb; exact absurd rfl hb
   | false => rfl
 obtain ⟨k, i, f, t, m, a1, s1, e1, _, _⟩ := anyCmd_ok l0 0 0 hu (by omega) (by omega)
 obtain ⟨kb, ib, fb, tb, mb, b1, c1, eb1, xb, yb⟩ := anyCmd_ok l1 0 0 hv (by omega) (by omega)
 obtain ⟨kc, ic, fc, tc, mc, b2, c2, eb2, _, _⟩ := anyCmd_ok l1 b1 c1 hv (by omega) (by omega)
 obtain ⟨u, hu1, hu2⟩ := drawRead_ok l1 hv
 obtain ⟨R, hR1, hR2⟩ := readEv u (by omega)
 have hd : spec_DrawCmdText.f l0 = some (k, i, f, t, m) := by unfold spec_DrawCmdText.f spec_DrawGoodCmd.f; rw [e1]; rfl
 have hD : spec_DrawInterfere.f l1 = some (kb, ib, fb, tb, mb, kc, ic, fc, tc, mc) := by
  unfold spec_DrawInterfere.f
  rw [eb1, Option.bind_some]
  dsimp only
  rw [eb2]
  rfl
 have hT : spec_DrawTouchesOf.f l1 = some (kb, ib, fb, tb, mb) := by unfold spec_DrawTouchesOf.f spec_DrawGoodCmd.f; rw [eb1]; rfl
 have I1 := implInter_ev kb ib fb tb mb kc ic fc tc mc
 have I2 := specInterR_ev kb ib fb tb mb kc ic fc tc mc
 have I3 := implInter_ev kc ic fc tc mc kb ib fb tb mb
 rw [interR_comm] at I3
 generalize interR kb ib fb tb mb kc ic fc tc mc = I at I1 I2 I3
 obtain ⟨I4, I5⟩ := I
 have T1 := implTouchesOf_f kb ib fb tb mb
 have T2 := specTouchesOf_ev kb ib fb tb mb
 have T4 : (touchR kb ib fb tb mb).1.length ≤ 2 := by unfold touchR; split; exact touchL_length _ _ _; simp
 generalize touchR kb ib fb tb mb = T at T1 T2 T4
 obtain ⟨T5, T6⟩ := T
 dsimp only at T4
 have T3 := sameInts_ev T5 (by omega)
 obtain ⟨Ra, Rb, Rc, Rd, Re, Rf, Rg⟩ := R
 have C1 := implCmdText_ev k i f t m
 have C2 := specCmdText_ev k i f t m
 refine ⟨k, i, f, t, m, hd, ?_⟩
 cases hg : Mine.goodCmdB k i f t m with
 | false =>
  have hr : cmdTextR k i f t m = ((⟨#[]⟩ : ByteArray), false) := by unfold cmdTextR; rw [hg]; rfl
  rw [hr] at C1 C2
  exact Or.inr ⟨_, C1.rounds, C2.rounds, by rw [implGoodCmd, hg], by rw [specGoodCmd, hg], _, _, _, _, _, _, _, _, _, _, hD, _, _, I1.rounds, I2.rounds, I3.rounds, _, hu1.rounds, _, _, _, _, _, _, _, hR1.rounds, hR2.rounds, _, _, _, _, _, hT, _, _, T1, _, T2.rounds, T3.rounds, trivial⟩
 | true =>
  have hr : cmdTextR k i f t m = (cmdT k i f t m, true) := by unfold cmdTextR; rw [hg]; rfl
  rw [hr] at C1 C2
  have hsz := cmdT_size hg
  obtain ⟨w0, r, hw, hrd⟩ := read_text hg
  have D1 := implRead_ev (cmdT k i f t m) w0 r (by omega) hw
  rw [hrd] at D1
  have T0 : impl_TouchesOf.f k i f t m = some (touchL k f t, true) := by rw [implTouchesOf_f]; unfold touchR; rw [hg]; rfl
  have J1 := implInter_ev k i f t m k i f t m
  have hJ : interR k i f t m k i f t m = (decide (0 < (touchL k f t).length), true) := by unfold interR; rw [hg, common_self]; rfl
  rw [hJ] at J1
  refine Or.inl ⟨_, C1.rounds, C2.rounds, by rw [implGoodCmd, hg], by rw [specGoodCmd, hg], D1.rounds, _, T0, ?_⟩
  by_cases hl : 0 < (touchL k f t).length
  ·rw [decide_eq_true hl] at J1
   exact Or.inl ⟨hl, J1.rounds, _, _, _, _, _, _, _, _, _, _, hD, _, _, I1.rounds, I2.rounds, I3.rounds, _, hu1.rounds, _, _, _, _, _, _, _, hR1.rounds, hR2.rounds, _, _, _, _, _, hT, _, _, T1, _, T2.rounds, T3.rounds, trivial⟩
  ·rw [decide_eq_false hl] at J1
   exact Or.inr ⟨hl, J1.rounds, _, _, _, _, _, _, _, _, _, _, hD, _, _, I1.rounds, I2.rounds, I3.rounds, _, hu1.rounds, _, _, _, _, _, _, _, hR1.rounds, hR2.rounds, _, _, _, _, _, hT, _, _, T1, _, T2.rounds, T3.rounds, trivial⟩

end Go.Proofs.YtmknjfnhfcljcaaDoor.Pure
