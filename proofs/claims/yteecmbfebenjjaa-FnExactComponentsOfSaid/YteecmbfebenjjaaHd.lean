/-
  Rows of rows, told by their headers: what the inner rows hold is said beside (they lie apart), so that headers may be moved between rows.
-/
import Derived.Test.YteecmbfebenjjaaWMore
import Derived.Test.YteecmbfebenjjaaWKept
namespace Go.Proofs.YteecmbfebenjjaaW.PrintWords
open Go.RowKit
set_option linter.unusedVariables false
/-- A slice's header. -/
abbrev Hd := Option Addr × Nat × Nat
def hdV (h : Hd) : Value := .slice h.1 h.2.1 h.2.2
theorem picks {α : Type} {R : Nat → α → Prop} : ∀ n : Nat, (∀ i, i < n → ∃ y, R i y) → ∃ ys : List α, ys.length = n ∧ ∀ i y, ys[i]? = some y → R i y
  | 0, _ => ⟨[], rfl, fun i y h => by simp at h⟩
  | n + 1, h => by
    obtain ⟨ys, hl, hys⟩ := picks n (fun i hi => h i (by omega))
    obtain ⟨y, hy⟩ := h n (by omega)
    refine ⟨ys ++ [y], by simp [hl], fun i z hz => ?_⟩
    rcases Nat.lt_or_ge i n with hi | hi
    · rw [List.getElem?_append_left (by omega)] at hz
      exact hys i z hz
    · rw [List.getElem?_append_right (by omega)] at hz
      have h0 : i - ys.length = 0 := by
        have := (List.getElem?_eq_some_iff.1 hz).1
        simp at this
        omega
      rw [h0] at hz
      simp at hz
      subst hz
      obtain rfl : i = n := by omega
      exact hy
namespace Kd
def hd : Kd Hd := scalar hdV (fun _ => rfl)
/-- The inner rows: each of the call's own, no two in one block. -/
structure Rows {α : Type} (d : Kd α) (e : Nat) (w : World) (base : Nat) (ps : List (Hd × List α)) : Prop where
  row : ∀ p ∈ ps, d.R e w base (fun _ => True) (hdV p.1) p.2
  ne : ps.Pairwise (fun p q => NeRow (hdV p.1) (hdV q.1))
section
variable {α : Type} {d : Kd α} {e e2 base b : Nat} {w w1 : World} {ok ok2 : Nat → Prop} {v : Value} {xs : List (List α)} {ps qs : List (Hd × List α)} {hs : List Hd}
theorem Rows.perm (h : Rows d e w base ps) (hp : ps.Perm qs) : Rows d e w base qs :=
  ⟨fun p hq => h.row p (hp.mem_iff.2 hq), (hp.pairwise_iff (R := fun (p q : Hd × List α) => NeRow (hdV p.1) (hdV q.1)) (fun hab => ne_symm hab)).1 h.ne⟩
theorem Rows.sub (h : Rows d e w base ps) (hp : qs.Sublist ps) : Rows d e w base qs := ⟨fun p hq => h.row p (hp.subset hq), h.ne.sublist hp⟩
theorem Rows.below (h : Rows d e w base ps) (hb : Below w.heap.size w w1) : Rows d e w1 base ps := ⟨fun p hq => R_below (h.row p hq) hb, h.ne⟩
theorem Rows.lower {base' : Nat} (h : Rows d e w base ps) (hb : base' ≤ base) : Rows d e w base' ps := ⟨fun p hq => R_lower (h.row p hq) hb, h.ne⟩
/-- A row of another type has been written. -/
theorem Rows.over {β : Type} {d' : Kd β} {ys : List β} (h : Rows d e w base ps) (hv : d'.R e2 w b ok v ys) (ht : ∀ q, q ∈ e :: d.E → q ≠ e2) (hg : w.grownBy w1 v.ownBlock) : Rows d e w1 base ps := ⟨fun p hq => R_over (h.row p hq) hv ht hg, h.ne⟩
theorem Rows.set_ {g t : Nat} {cells : Array Value} (h : Rows d e w base ps) (hb : w.heap[g]? = some (.cells cells t (0, 0))) (ht : ∀ q, q ∈ e :: d.E → q ≠ t) (j : Nat) (u : Value) : Rows d e (w.setCell ⟨g, j, none⟩ u) base ps := ⟨fun p hq => R_set (h.row p hq) hb ht j u, h.ne⟩
theorem Rows.nil (d : Kd α) (e : Nat) (w : World) (base : Nat) : Rows d e w base [] := ⟨fun _ h => by simp at h, List.Pairwise.nil⟩
/-- An elder set of rows, and a row that has been made since. -/
theorem Rows.snoc (h : Rows d e w base ps) {p : Hd × List α} (hp : d.R e w b (fun _ => True) (hdV p.1) p.2) (hb : base ≤ b) (hn : ∀ q ∈ ps, NeRow (hdV q.1) (hdV p.1)) : Rows d e w base (ps ++ [p]) :=
  ⟨fun q hq => by
    rcases List.mem_append.1 hq with hq | hq
    · exact h.row q hq
    · rw [List.mem_singleton] at hq; subst hq; exact R_lower hp hb, List.pairwise_append.2 ⟨h.ne, List.pairwise_singleton _ _, fun q hq p' hp' => by rw [List.mem_singleton] at hp'; subst hp'; exact hn q hq⟩⟩
/-- Header i, and the row that it tells. -/
theorem pair_at {A : Option Addr} {n c : Nat} (h : hd.R e2 w base ok (.slice A n c) (ps.map (·.1))) (hr : ∀ p ∈ ps, d.R e w b ok2 (hdV p.1) p.2) (i : Nat) (hi : i < ps.length) :
    ∃ ad B cc x, A = some ad ∧ w.cell? (ad.add i) = some (.slice B x.length cc) ∧ ps[i]? = some ((B, x.length, cc), x) ∧ (ps.map (·.2)).getD i [] = x ∧ x.length ≤ cc ∧ d.C w B x.length x := by
  have hC := reads_of_C (d := ((none, 0, 0) : Hd)) (R_reads' h).2.2
  obtain ⟨ad, hA, hc⟩ := ReadsOf.at_ hC (i : Int) (by omega) (by rw [List.length_map]; omega)
  rw [Int.toNat_natCast] at hc
  have hp := List.getElem?_eq_getElem hi
  obtain ⟨⟨⟨B, m, cc⟩, x⟩, hq⟩ : ∃ q, q = ps[i] := ⟨_, rfl⟩
  rw [← hq] at hp
  have hR := hr _ (List.mem_iff_getElem?.2 ⟨i, hp⟩)
  obtain ⟨hm, hmc, hCx⟩ := R_reads' (show d.R e w b ok2 (.slice B m cc) x from hR)
  have hm' : m = x.length := hm
  subst hm'
  refine ⟨ad, B, cc, x, hA, ?_, hp, ?_, hmc, hCx⟩
  · rw [hc]
    unfold rdOf
    rw [Int.toNat_natCast, List.getD_eq_getElem?_getD, List.getElem?_map, hp]
    rfl
  · rw [List.getD_eq_getElem?_getD, List.getElem?_map, hp]; rfl
theorem Rows.grown_ne (h : Rows d e w base ps) (hE : d.E = []) (hg : w.grownBy w1 v.ownBlock) (hn : ∀ p ∈ ps, NeRow (hdV p.1) v) : Rows d e w1 base ps :=
  ⟨fun p hp => R_mono (R_grown (R_tight hE (h.row p hp)) hg (fun k hk he => hn p hp k hk.symm he.symm)) (fun _ _ => trivial), h.ne⟩
theorem Rows.ne_after {v1 : Value} (h : Rows d e w base ps) (hn : ∀ p ∈ ps, NeRow (hdV p.1) v) (hat : v1.ownBlock = v.ownBlock ∨ ∃ b, v1.ownBlock = some b ∧ w.heap.size ≤ b) : ∀ p ∈ ps, NeRow (hdV p.1) v1 := fun p hp k hk he => by
  rcases hat with hat | ⟨b, hb, hle⟩
  · exact hn p hp k hk (hat ▸ he)
  · rw [hb] at he
    injection he with he
    have := R_lt (h.row p hp) k hk
    omega
/-- What has been made since is in no elder row. -/
theorem Rows.ne_new {W : World} {w2 : World} {u : Value} {β : Type} {d' : Kd β} {ys : List β} {e' : Nat} (h : Rows d e W base ps) (hu : d'.R e' w2 W.heap.size ok u ys) : ∀ p ∈ ps, NeRow (hdV p.1) u := fun p hp k hk he => by
  have h1 := R_lt (h.row p hp) k hk
  have h2 := R_base hu k he
  omega
theorem S_rows (h : Kd.S (Kd.slice e d) e2 w base ok v xs) : ∃ ps : List (Hd × List α), ps.map (·.2) = xs ∧ hd.R e2 w base ok v (ps.map (·.1)) ∧ Rows d e w base ps := by
  obtain ⟨f, h0, inner, ho, hr⟩ := h
  have hl := hr.1
  rw [List.length_zipIdx] at ho hl
  have hone : ∀ i, i < xs.length → ∃ p : Hd × List α, (inner.drop i).take 1 = [hdV p.1] ∧ xs[i]? = some p.2 ∧ d.R e w base (fun k => f k = i) (hdV p.1) p.2 := by
    intro i hi
    have hx := List.getElem?_eq_getElem hi
    obtain ⟨u, hu, hR⟩ := hr.2 i (xs[i], i) (zip_at hx)
    obtain ⟨A, c, rfl⟩ := R_slice hR
    refine ⟨((A, xs[i].length, c), xs[i]), ?_, hx, R_mono hR (fun k hk => hk.2)⟩
    have : (Kd.tag f (Kd.slice e d)).sz = 1 := rfl
    rw [this, Nat.mul_one] at hu
    exact hu
  obtain ⟨ps, hpl, hps⟩ := picks xs.length hone
  refine ⟨ps, ?_, ⟨h0, inner, by rw [List.length_map, hpl]; exact ho, ?_, fun j p hj => ?_⟩, ⟨fun p hp => ?_, ?_⟩⟩
  · apply List.ext_getElem?
    intro i
    rw [List.getElem?_map]
    cases hp : ps[i]? with
    | none => rw [Option.map_none, List.getElem?_eq_none]; rw [List.getElem?_eq_none_iff] at hp; omega
    | some p => rw [Option.map_some]; exact (hps i p hp).2.1.symm
  · rw [List.length_map, hpl]; exact hl
  · rw [List.getElem?_map] at hj
    obtain ⟨p', hp', rfl⟩ := Option.map_eq_some_iff.1 hj
    show (inner.drop (j * 1)).take 1 = [hdV p'.1]
    rw [Nat.mul_one]
    exact (hps j p' hp').1
  · obtain ⟨i, hi⟩ := List.mem_iff_getElem?.1 hp
    exact R_mono (hps i p hi).2.2 (fun _ _ => trivial)
  · rw [List.pairwise_iff_getElem]
    intro i j hi hj hij k hk hk'
    have h1 := (hps i _ (List.getElem?_eq_getElem hi)).2.2.1 k hk
    have h2 := (hps j _ (List.getElem?_eq_getElem hj)).2.2.1 k hk'
    omega
theorem rows_S (h : hd.R e2 w base ok v (ps.map (·.1))) (hr : Rows d e w base ps) (hE : d.E = []) (hne : e ≠ e2) : Kd.S (Kd.slice e d) e2 w base (fun _ => True) v (ps.map (·.2)) := by
  refine ⟨fun k => ps.findIdx (fun p => (hdV p.1).ownBlock == some k), ?_⟩
  obtain ⟨h0, inner, ho, hs⟩ := h
  have hl := hs.1
  rw [List.length_map] at ho hl
  refine ⟨fun _ _ => trivial, inner, by rw [List.length_zipIdx, List.length_map]; exact ho, by rw [List.length_zipIdx, List.length_map]; exact hl, fun j p hj => ?_⟩
  rw [List.getElem?_zipIdx, List.getElem?_map, Nat.zero_add] at hj
  cases hp : ps[j]? with
  | none => rw [hp] at hj; simp at hj
  | some q =>
    rw [hp] at hj
    simp at hj
    subst hj
    have hq := hs.2 j q.1 (by rw [List.getElem?_map, hp]; rfl)
    have hqm := List.mem_iff_getElem?.2 ⟨j, hp⟩
    refine ⟨hdV q.1, hq, ?_⟩
    obtain ⟨hjl, hje⟩ := List.getElem?_eq_some_iff.1 hp
    have hR := hr.row q hqm
    have hd2 : ∀ k, (hdV q.1).ownBlock = some k → some k ≠ v.ownBlock := fun k hk he => by
      obtain ⟨i1, ho1⟩ := R_own hR
      obtain ⟨c1, hc1⟩ := own_typed ho1 k hk
      obtain ⟨c2, hc2⟩ := own_typed ho k he.symm
      rw [hc1] at hc2
      injection hc2 with hc2
      injection hc2 with _ hc2
      exact hne hc2
    have hf : ∀ k, (hdV q.1).ownBlock = some k → ps.findIdx (fun p => (hdV p.1).ownBlock == some k) = j := fun k hk => by
      rw [List.findIdx_eq hjl]
      refine ⟨by rw [hje]; simpa using hk, fun i hi => ?_⟩
      have hil : i < ps.length := by omega
      have := (List.pairwise_iff_getElem.1 hr.ne) i j hil hjl hi
      rw [hje] at this
      simp only [beq_eq_false_iff_ne, ne_eq]
      intro he
      exact this k he hk
    exact R_reok hE hR (fun k hk => ⟨⟨trivial, hd2 k hk⟩, hf k hk⟩)
end
/-- What is written behind a row's end. -/
theorem own_past {w : World} {base : Nat} {e : TypeId} {size g n c j : Nat} {xs vs : List Value} (h : w.ownsRow base e size (.slice (some ⟨g, 0, none⟩) n c) n xs) (hj : n * size ≤ j) (hfit : j + vs.length ≤ c * size) :
    (w.setCells g j vs).ownsRow base e size (.slice (some ⟨g, 0, none⟩) n c) n xs := by
  obtain ⟨h1, h2⟩ := h
  refine ⟨h1, .inr ?_⟩
  rcases h2 with ⟨hv, _⟩ | ⟨g', c', cur, hv, hb, hh, hn, hm, hs, ht⟩
  · cases hv
  · injection hv with ha _ hc
    injection ha with ha
    injection ha with ha
    subst ha
    subst hc
    obtain ⟨cur', h3, h4, h5⟩ := setCells_row vs j w cur hh (by omega)
    refine ⟨g, c, cur', rfl, hb, h3, hn, hm, by omega, ?_⟩
    rw [h5, List.append_assoc, List.take_append_of_le_length (by rw [List.length_take, Array.length_toList]; omega), List.take_take, Nat.min_eq_left hj, ht]
/-- Rows of rows, read as such. -/
theorem rows_C {α : Type} {d : Kd α} {w : World} {base e e2 n c : Nat} {A : Option Addr} {ok : Nat → Prop} {ps : List (Hd × List α)} (h : hd.R e2 w base ok (.slice A n c) (ps.map (·.1))) (hr : Rows d e w base ps) (hE : d.E = []) (hne : e ≠ e2) :
    n = ps.length ∧ n ≤ c ∧ (Kd.slice e d).C w A (ps.map (·.2)).length (ps.map (·.2)) := by
  have h1 := S_reads' (rows_S h hr hE hne)
  rw [List.length_map] at h1 ⊢
  exact h1
theorem hd_room {w : World} {base e g n c : Nat} {ok : Nat → Prop} {hs : List Hd} (h : hd.R e w base ok (.slice (some ⟨g, 0, none⟩) n c) hs) : ∃ cells, w.heap[g]? = some (.cells cells e (0, 0)) ∧ cells.size = c := by
  rcases (own_of_R h).2 with ⟨hv, _⟩ | ⟨g', c', cur, hv, hb, hh, hn, hm, hs, ht⟩
  · cases hv
  · injection hv with ha _ hc
    injection ha with ha
    injection ha with ha
    subst ha
    subst hc
    exact ⟨cur, hh, by omega⟩
theorem hd_past {w : World} {base e g n c j : Nat} {ok : Nat → Prop} {hs : List Hd} {vs : List Value} (h : hd.R e w base ok (.slice (some ⟨g, 0, none⟩) n c) hs) (hj : n ≤ j) (hfit : j + vs.length ≤ c) : hd.R e (w.setCells g j vs) base ok (.slice (some ⟨g, 0, none⟩) n c) hs := by
  have hn := (R_reads' h).1
  have ho := own_of_R h
  rw [← hn] at ho
  have h2 := own_past ho (show n * 1 ≤ j by omega) (show j + vs.length ≤ c * 1 by omega)
  refine R_of_own ?_ h.1
  rw [← hn]
  exact h2
theorem del_step {P : Program} {ops : Array Oper} {o : Oper} {a : Act} {Q : Exit → Act → World → Prop} {K : Act → World → Prop} {E : Prop} {w0 W : World} (base : Nat) (hgd : o.guard = none) (s x : Operand) (t e : TypeId) (ho : o.op = .call { callee := .builtin .append, args := #[s, x], argTypes := #[t, t] })
    (ht : P.underlying t = some (.slice e)) (hinfo : (P.info? e).map (·.size) = some 1) {g n c k m c2 : Nat} {A : Option Addr} {xs : List Hd} {ok : Nat → Prop}
    (hs : a.eval s = .slice (some ⟨g, 0, none⟩) k c) (hx : a.eval x = .slice A m c2) (hA : A = if c = k + 1 then some ⟨g, 0, none⟩ else (some (⟨g, 0, none⟩ : Addr)).map (·.add ((k + 1) * 1))) (hm : m = n - (k + 1))
    (HO : hd.R e W base ok (.slice (some ⟨g, 0, none⟩) n c) xs) (hk : k < n) (HB : Below base w0 W) (hbase : base ≤ W.heap.size)
    (h : ∀ w1, hd.R e w1 base ok (.slice (some ⟨g, 0, none⟩) (n - 1) c) (xs.eraseIdx k) → Below base w0 w1 → W.grownBy w1 (some g) → K (a.put o.dst (.slice (some ⟨g, 0, none⟩) (n - 1) c)) w1) :
    if Region.wanted o (yielded ops a.tmps) = true then Oper.wp P o a W K Q else E := by
  have hw : Region.wanted o (yielded ops a.tmps) = true := by simp [Region.wanted, hgd]
  have := R_delete_step (Q := Q) (ops := ops) hd base hw s x t e ho ht hinfo hs hx hA hm HO hk HB hbase h
  rw [if_pos hw] at this ⊢
  exact this
end Kd
end Go.Proofs.YteecmbfebenjjaaW.PrintWords
