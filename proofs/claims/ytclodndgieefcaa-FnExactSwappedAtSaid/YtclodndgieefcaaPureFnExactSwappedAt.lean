/- The law FnExactSwappedAt holds for every input; nothing is assumed. -/
import Derived.Test.YtclodndgieefcaaQFnExactSwappedAtx3
namespace Go.Proofs.Ytclodndgieefcaa.Pure
open Go.RowKit Go.Proofs.Ytclodndgieefcaa.PFnExactSwappedAt Go.Proofs.YtclodndgieefcaaW.PrintWords Go.Proofs.YtclodndgieefcaaW.PrintLast Go.Proofs.YtclodndgieefcaaW.PrintMore
set_option linter.unusedVariables false
set_option linter.unusedSimpArgs false
theorem ev_succ {α : Type} {g : Nat → Option α} {r : α} (h : Ev (fun k => g (k + 1)) r) : Ev g r := Ev.step (fun _ => rfl) h
theorem ev_pos {α : Type} {c : Prop} [Decidable c] {f g : Nat → Option α} {r : α} (h : c) (k : Ev f r) : Ev (fun n => if c then f n else g n) r := Ev.congr (fun _ => if_pos h) k
theorem ev_neg {α : Type} {c : Prop} [Decidable c] {f g : Nat → Option α} {r : α} (h : ¬c) (k : Ev g r) : Ev (fun n => if c then f n else g n) r := Ev.congr (fun _ => if_neg h) k
theorem ev_some {α : Type} {x r : α} (h : x = r) : Ev (fun _ => some x) r := h ▸ Ev.now x
theorem ev_to {α : Type} {g : Nat → Option α} {a r : α} (h : Ev g a) (e : a = r) : Ev g r := e ▸ h
/-- Whether P. -/
noncomputable def dec (P : Prop) : Bool := @decide P (Classical.propDecidable P)
theorem dec_iff {P : Prop} : dec P = true ↔ P := @decide_eq_true_iff P (Classical.propDecidable P)
theorem dec_pos {P : Prop} (h : P) : dec P = true := dec_iff.2 h
theorem dec_neg {P : Prop} (h : ¬P) : dec P = false := by
  cases e : dec P
  · rfl
  · exact absurd (dec_iff.1 e) h
theorem dec_congr {P Q : Prop} (h : P ↔ Q) : dec P = dec Q := by rw [propext h]
theorem dec_of {P : Prop} [Decidable P] : decide P = dec P := by
  by_cases h : P
  · rw [dec_pos h, decide_eq_true h]
  · rw [dec_neg h, decide_eq_false h]
theorem dec_bool {b : Bool} : b = dec (b = true) := by
  cases b
  · exact (dec_neg (by simp)).symm
  · exact (dec_pos rfl).symm
/-- From i on: at i, and from i + 1 on. -/
theorem from_step {i n : Nat} {Q : Nat → Prop} (h : i < n) : (∀ j, i ≤ j → j < n → Q j) ↔ Q i ∧ ∀ j, i + 1 ≤ j → j < n → Q j := by
  constructor
  · exact fun a => ⟨a i (Nat.le_refl _) h, fun j h1 h2 => a j (by omega) h2⟩
  · intro a j h1 h2
    by_cases e : j = i
    · exact e ▸ a.1
    · exact a.2 j (by omega) h2
theorem from_end {n : Nat} {Q : Nat → Prop} : ∀ j, n ≤ j → j < n → Q j := fun j h1 h2 => by omega
theorem wrap_id {x : Int} (h0 : -9223372036854775808 ≤ x) (h1 : x ≤ 9223372036854775807) : wrap64 x = x := by unfold wrap64; omega
theorem wrap_succ {i : Nat} (h : i ≤ 9223372036854775806) : wrap64 ((i : Int) + 1) = ((i + 1 : Nat) : Int) := by unfold wrap64; omega
theorem wrap_pred {i : Nat} (h : i ≤ 9223372036854775806) : wrap64 ((i : Int) - 1) = (i : Int) - 1 := by unfold wrap64; omega
/-- The bounds of a number of the kind int. -/
def I64 (x : Int) : Prop := -9223372036854775808 ≤ x ∧ x ≤ 9223372036854775807
theorem i64_wf {x : Int} (h : (Lit.int .i64 x).wf = true) : I64 x := by
  have h' : (decide (IntKind.i64.min ≤ x) && decide (x ≤ IntKind.i64.max)) = true := h
  have a : IntKind.i64.min = -9223372036854775808 := by decide
  have b : IntKind.i64.max = 9223372036854775807 := by decide
  rw [a, b] at h'
  simpa [I64] using h'
theorem rd_nat (l : List Int) (i : Nat) : rd l (i : Int) = l.getD i 0 := rfl
theorem rd_set (l : List Int) (i j : Nat) (v : Int) (h : i < l.length) : rd (l.set i v) (j : Int) = if j = i then v else rd l (j : Int) := by
  rw [rd_nat, rd_nat, List.getD_eq_getElem?_getD, List.getElem?_set]
  by_cases e : i = j
  · subst e; rw [if_pos rfl, if_pos h, if_pos rfl]; rfl
  · rw [if_neg e, if_neg (fun x => e x.symm), ← List.getD_eq_getElem?_getD]
theorem rd_app (l : List Int) (v : Int) (j : Nat) : rd (l ++ [v]) (j : Int) = if j < l.length then rd l (j : Int) else if j = l.length then v else 0 := by
  rw [rd_nat, rd_nat, List.getD_eq_getElem?_getD, List.getD_eq_getElem?_getD, List.getElem?_append]
  by_cases h : j < l.length
  · rw [if_pos h, if_pos h]
  · rw [if_neg h, if_neg h]
    by_cases e : j = l.length
    · subst e; rw [if_pos rfl]; simp
    · rw [if_neg e, List.getElem?_eq_none (by simp; omega)]; rfl
theorem rd_take (l : List Int) (n j : Nat) (h : j < n) : rd (l.take n) (j : Int) = rd l (j : Int) := by
  rw [rd_nat, rd_nat, List.getD_eq_getElem?_getD, List.getElem?_take, if_pos h, ← List.getD_eq_getElem?_getD]
theorem rd_ext {a b : List Int} (hl : a.length = b.length) (h : ∀ j : Nat, j < a.length → rd a (j : Int) = rd b (j : Int)) : a = b := by
  refine List.ext_getElem hl fun j h1 h2 => ?_
  have := h j h1
  rw [rd_nat, rd_nat, List.getD_eq_getElem?_getD, List.getD_eq_getElem?_getD, List.getElem?_eq_getElem h1, List.getElem?_eq_getElem h2] at this
  exact this
theorem rd_out (l : List Int) (j : Nat) (h : l.length ≤ j) : rd l (j : Int) = 0 := by
  rw [rd_nat, List.getD_eq_getElem?_getD, List.getElem?_eq_none h]; rfl
theorem rd_mem {l : List Int} {j : Nat} (h : j < l.length) : rd l (j : Int) ∈ l := by
  rw [rd_nat, List.getD_eq_getElem?_getD, List.getElem?_eq_getElem h]; exact List.getElem_mem h
theorem rd_repl (n j : Nat) : rd (List.replicate n (0 : Int)) (j : Int) = 0 := by
  rw [rd_nat, List.getD_eq_getElem?_getD, List.getElem?_replicate]; split <;> rfl
/-- A row has each number from 0 up to m less 1 just once, 1 to 6 of them. -/
def EACH (l : List Int) (m : Int) : Prop := (∀ i : Nat, i < l.length → (0 ≤ rd l (i : Int) ∧ rd l (i : Int) < m) ∧ ∀ j : Nat, j < i → rd l (j : Int) ≠ rd l (i : Int)) ∧ (1 ≤ m ∧ m ≤ 6) ∧ (l.length : Int) = m
/-- Neighbours exchanged. -/
def sw (l : List Int) (a : Nat) : List Int := (l.set a (rd l ((a + 1 : Nat) : Int))).set (a + 1) (rd l (a : Int))
theorem sw_len (l : List Int) (a : Nat) : (sw l a).length = l.length := by simp [sw]
theorem rd_sw {l : List Int} {a : Nat} (h : a + 1 < l.length) (j : Nat) : rd (sw l a) (j : Int) = if j = a + 1 then rd l (a : Int) else if j = a then rd l ((a + 1 : Nat) : Int) else rd l (j : Int) := by
  unfold sw
  rw [rd_set _ _ _ _ (by rw [List.length_set]; omega), rd_set _ _ _ _ (by omega)]
def SWOK (l : List Int) (a : Int) : Prop := EACH l (l.length : Int) ∧ 0 ≤ a ∧ a ≤ (l.length : Int) - 2
noncomputable def SWV (l : List Int) (a : Int) : List Int × Bool := if dec (SWOK l a) = true then (sw l a.toNat, true) else ([], false)
theorem SWV_pos {l : List Int} {a : Int} (h : SWOK l a) : SWV l a = (sw l a.toNat, true) := by unfold SWV; rw [if_pos (dec_pos h)]
theorem SWV_neg {l : List Int} {a : Int} (h : ¬SWOK l a) : SWV l a = ([], false) := by unfold SWV; rw [if_neg (by rw [dec_neg h]; simp)]
theorem SWV_len (l : List Int) (a : Int) : (SWV l a).1.length ≤ l.length := by
  by_cases h : SWOK l a
  · rw [SWV_pos h]; simp only [sw_len]; omega
  · rw [SWV_neg h]; simp
theorem l1In_eq (a b c : Int) : spec_l1In.f a b c = some (dec (b ≤ a ∧ a ≤ c)) := by
  unfold spec_l1In.f
  by_cases h : a ≥ b
  · rw [if_pos h]
    by_cases h2 : a ≤ c
    · rw [decide_eq_true h2, dec_pos ⟨h, h2⟩]
    · rw [decide_eq_false h2, dec_neg (fun x => h2 x.2)]
  · rw [if_neg h, dec_neg (fun x => h x.1)]
theorem l1In_ev (a b c : Int) : Ev (fun _ => spec_l1In.f a b c) (dec (b ≤ a ∧ a ≤ c)) := Ev.congr (fun _ => l1In_eq a b c) (Ev.now _)
def EACHs (l : List Int) (m : Int) (i : Nat) : Prop := (∀ j : Nat, i ≤ j → j < l.length → (0 ≤ rd l (j : Int) ∧ rd l (j : Int) ≤ wrap64 (m - 1)) ∧ ∀ j' : Nat, 0 ≤ j' → j' < j → rd l (j' : Int) ≠ rd l (j : Int)) ∧ (1 ≤ m ∧ m ≤ 6) ∧ (l.length : Int) = m
theorem sEach_l1 (l : List Int) (m : Int) (hl : l.length ≤ 9223372036854775806) (i : Nat) (hi : i < l.length) (R : Prop) (H : Ev (fun k => spec_EachOnce.l0 k l m ((i + 1 : Nat) : Int)) (dec R)) :
    ∀ d j : Nat, j + d = i → Ev (fun k => spec_EachOnce.l1 k l m (i : Int) (j : Int)) (dec ((∀ j' : Nat, j ≤ j' → j' < i → rd l (j' : Int) ≠ rd l (i : Int)) ∧ R)) := by
  intro d
  induction d with
  | zero =>
    intro j hj
    obtain rfl : j = i := by omega
    refine ev_succ ?_
    simp only [spec_EachOnce.l1]
    refine ev_neg (by omega) ?_
    rw [wrap_succ (by omega)]
    exact ev_to H (dec_congr ⟨fun h => ⟨from_end, h⟩, fun h => h.2⟩)
  | succ d ih =>
    intro j hj
    refine ev_succ ?_
    simp only [spec_EachOnce.l1]
    refine ev_pos (by omega) (ev_pos (by omega) (ev_pos (by omega) (ev_pos (by omega) (ev_pos (by omega) ?_))))
    by_cases e : rd l (j : Int) = rd l (i : Int)
    · refine ev_pos e (ev_some (dec_neg ?_).symm)
      intro h; exact h.1 j (Nat.le_refl _) (by omega) e
    · refine ev_neg e ?_
      rw [wrap_succ (by omega)]
      refine ev_to (ih (j + 1) (by omega)) (dec_congr ?_)
      rw [from_step (i := j) (n := i) (by omega)]
      exact ⟨fun h => ⟨⟨e, h.1⟩, h.2⟩, fun h => ⟨h.1.2, h.2⟩⟩
theorem sEach_l0 (l : List Int) (m : Int) (hl : l.length ≤ 9223372036854775806) : ∀ d i : Nat, i + d = l.length → Ev (fun k => spec_EachOnce.l0 k l m (i : Int)) (dec (EACHs l m i)) := by
  intro d
  induction d with
  | zero =>
    intro i hi
    refine ev_succ ?_
    simp only [spec_EachOnce.l0]
    refine ev_neg (by omega) (Ev.bind (l1In_ev _ _ _) ?_)
    obtain rfl : i = l.length := by omega
    by_cases h : 1 ≤ m ∧ m ≤ 6
    · refine ev_pos (dec_pos h) (ev_some ?_)
      rw [dec_bool (b := _ == _)]
      refine dec_congr ?_
      simp only [beq_iff_eq]
      exact ⟨fun e => ⟨from_end, h, e⟩, fun e => e.2.2⟩
    · refine ev_neg (by rw [dec_neg h]; simp) (ev_some (dec_neg (fun e => h e.2.1)).symm)
  | succ d ih =>
    intro i hi
    refine ev_succ ?_
    simp only [spec_EachOnce.l0]
    refine ev_pos (by omega) (ev_pos (by omega) (Ev.bind (l1In_ev _ _ _) ?_))
    have hs := from_step (i := i) (n := l.length) (Q := fun j => (0 ≤ rd l (j : Int) ∧ rd l (j : Int) ≤ wrap64 (m - 1)) ∧ ∀ j' : Nat, 0 ≤ j' → j' < j → rd l (j' : Int) ≠ rd l (j : Int)) (by omega)
    by_cases h : 0 ≤ rd l (i : Int) ∧ rd l (i : Int) ≤ wrap64 (m - 1)
    · refine ev_pos (dec_pos h) ?_
      refine ev_to (sEach_l1 l m hl i (by omega) _ (ih (i + 1) (by omega)) i 0 (by omega)) (dec_congr ?_)
      unfold EACHs
      rw [hs]
      exact ⟨fun x => ⟨⟨⟨h, x.1⟩, x.2.1⟩, x.2.2⟩, fun x => ⟨x.1.1.2, x.1.2, x.2⟩⟩
    · refine ev_neg (by rw [dec_neg h]; simp) (ev_some (dec_neg ?_).symm)
      intro x; exact h (hs.1 x.1).1.1
theorem sEachOnce_ev (l : List Int) (m : Int) (hl : l.length ≤ 9223372036854775806) : Ev (fun k => spec_EachOnce.f k l m) (dec (EACH l m)) := by
  unfold spec_EachOnce.f
  refine ev_to (sEach_l0 l m hl l.length 0 (by omega)) (dec_congr ?_)
  unfold EACHs EACH
  constructor
  · rintro ⟨h, hm, hn⟩
    rw [wrap_id (by omega) (by omega)] at h
    exact ⟨fun i hi => ⟨⟨(h i (by omega) hi).1.1, by have := (h i (by omega) hi).1.2; omega⟩, fun j hj => (h i (by omega) hi).2 j (by omega) hj⟩, hm, hn⟩
  · rintro ⟨h, hm, hn⟩
    rw [wrap_id (by omega) (by omega)]
    exact ⟨fun i _ hi => ⟨⟨(h i hi).1.1, by have := (h i hi).1.2; omega⟩, fun j _ hj => (h i hi).2 j hj⟩, hm, hn⟩
theorem sSwappedAt_ev (l : List Int) (a : Int) (hl : l.length ≤ 1048576) : Ev (fun k => spec_SwappedAt.f k l a) (SWV l a) := by
  unfold spec_SwappedAt.f
  refine Ev.bind (sEachOnce_ev _ _ (by omega)) ?_
  by_cases he : EACH l (l.length : Int)
  · refine ev_pos (dec_pos he) (Ev.bind (l1In_ev _ _ _) ?_)
    rw [wrap_id (x := (l.length : Int) - 2) (by omega) (by omega)]
    by_cases ha : 0 ≤ a ∧ a ≤ (l.length : Int) - 2
    · refine ev_pos (dec_pos ha) ?_
      obtain ⟨n, rfl⟩ := Int.eq_ofNat_of_zero_le ha.1
      rw [wrap_succ (i := n) (by omega), SWV_pos ⟨he, ha⟩]
      simp only [Option.bind_some, List.nil_append, List.length_nil]
      exact ev_pos (by omega) (ev_pos (by omega) (ev_pos (by omega) (ev_pos (by omega) (ev_pos (by omega) (Ev.now _)))))
    · refine ev_neg (by rw [dec_neg ha]; simp) (ev_some ?_)
      rw [SWV_neg (fun h => ha h.2)]
  · refine ev_neg (by rw [dec_neg he]; simp) (ev_some ?_)
    rw [SWV_neg (fun h => he h.1)]
theorem Index_l0 (l : List Int) (x : Int) (hl : l.length ≤ 9223372036854775806) : ∀ (d i : Nat), i + d = l.length → (∀ j : Nat, j < i → rd l (j : Int) ≠ x) →
    ∃ r, Ev (fun k => slices_Index_int_int.l0 k l x (l.length : Int) (i : Int)) r ∧ (0 ≤ r ↔ ∃ j : Nat, j < l.length ∧ rd l (j : Int) = x) := by
  intro d
  induction d with
  | zero =>
    intro i hi hr
    refine ⟨-1, ev_succ ?_, ?_⟩
    · simp only [slices_Index_int_int.l0]
      exact ev_neg (by omega) (Ev.now _)
    · constructor
      · intro h; omega
      · rintro ⟨j, h1, h2⟩; exact absurd h2 (hr j (by omega))
  | succ d ih =>
    intro i hi hr
    by_cases h : x = rd l (i : Int)
    · refine ⟨i, ev_succ ?_, ?_⟩
      · simp only [slices_Index_int_int.l0]
        refine ev_pos (by omega) (ev_pos (by omega) (ev_pos (by omega) (ev_pos h (Ev.now _))))
      · exact ⟨fun _ => ⟨i, by omega, h.symm⟩, fun _ => by omega⟩
    · obtain ⟨r, h1, h2⟩ := ih (i + 1) (by omega) (fun j hj => by
        by_cases e : j = i
        · rw [e]; exact fun e2 => h e2.symm
        · exact hr j (by omega))
      refine ⟨r, ev_succ ?_, h2⟩
      simp only [slices_Index_int_int.l0]
      refine ev_pos (by omega) (ev_pos (by omega) (ev_pos (by omega) (ev_neg h ?_)))
      rw [wrap_succ (by omega)]
      exact h1
theorem Contains_ev (l : List Int) (x : Int) (hl : l.length ≤ 9223372036854775806) : Ev (fun k => slices_Contains_int_int.f k l x) (dec (∃ j : Nat, j < l.length ∧ rd l (j : Int) = x)) := by
  unfold slices_Contains_int_int.f
  obtain ⟨r, h1, h2⟩ := Index_l0 l x hl l.length 0 (by omega) (fun j hj => by omega)
  refine Ev.bind (a := r) ?_ (ev_some ?_)
  · unfold slices_Index_int_int.f; exact h1
  · rw [dec_of]; exact dec_congr h2
theorem iEach_l0 (l : List Int) (m : Int) (hl : l.length ≤ 9223372036854775806) : ∀ d i : Nat, i + d = l.length → (∀ j : Nat, j < i → (0 ≤ rd l (j : Int) ∧ rd l (j : Int) < m) ∧ ∀ j' : Nat, j' < j → rd l (j' : Int) ≠ rd l (j : Int)) →
    Ev (fun k => impl_EachOnce.l0 k l m l (l.length : Int) (i : Int)) (dec (EACH l m)) := by
  intro d
  induction d with
  | zero =>
    intro i hi hr
    refine ev_succ ?_
    simp only [impl_EachOnce.l0]
    refine ev_neg (by omega) ?_
    by_cases h1 : m ≥ 1
    · refine ev_pos h1 ?_
      by_cases h2 : m ≤ 6
      · refine ev_pos h2 (ev_some ?_)
        rw [dec_bool (b := _ == _)]
        refine dec_congr ?_
        simp only [beq_iff_eq]
        exact ⟨fun e => ⟨fun j hj => hr j (by omega), ⟨h1, h2⟩, e⟩, fun e => e.2.2⟩
      · exact ev_neg h2 (ev_some (dec_neg (fun e => h2 e.2.1.2)).symm)
    · exact ev_neg h1 (ev_some (dec_neg (fun e => h1 e.2.1.1)).symm)
  | succ d ih =>
    intro i hi hr
    refine ev_succ ?_
    simp only [impl_EachOnce.l0]
    refine ev_pos (by omega) (ev_pos (by omega) (ev_pos (by omega) ?_))
    by_cases h1 : rd l (i : Int) < 0
    · refine ev_pos h1 (ev_some (dec_neg ?_).symm)
      intro e; have := (e.1 i (by omega)).1.1; omega
    · refine ev_neg h1 ?_
      by_cases h2 : rd l (i : Int) ≥ m
      · refine ev_pos h2 (ev_some (dec_neg ?_).symm)
        intro e; have := (e.1 i (by omega)).1.2; omega
      · refine ev_neg h2 (ev_pos (by omega) (Ev.bind (Contains_ev _ _ (by rw [List.length_take]; omega)) ?_))
        by_cases h3 : ∃ j : Nat, j < (l.take (i : Int).toNat).length ∧ rd (l.take (i : Int).toNat) (j : Int) = rd l (i : Int)
        · refine ev_pos (dec_pos h3) (ev_some (dec_neg ?_).symm)
          intro e
          obtain ⟨j, hj, he⟩ := h3
          have hj' : j < i := by rw [List.length_take] at hj; omega
          rw [show ((i : Int).toNat) = i from rfl, rd_take _ _ _ hj'] at he
          exact (e.1 i (by omega)).2 j hj' he
        · refine ev_neg (by rw [dec_neg h3]; simp) ?_
          rw [wrap_succ (by omega)]
          refine ih (i + 1) (by omega) ?_
          intro j hj
          by_cases e : j = i
          · subst e
            refine ⟨⟨by omega, by omega⟩, fun j' hj' he => h3 ⟨j', ?_, ?_⟩⟩
            · rw [List.length_take]; omega
            · rw [show ((j : Int).toNat) = j from rfl, rd_take _ _ _ hj']; exact he
          · exact hr j (by omega)
theorem iEachOnce_ev (l : List Int) (m : Int) (hl : l.length ≤ 9223372036854775806) : Ev (fun k => impl_EachOnce.f k l m) (dec (EACH l m)) := by
  unfold impl_EachOnce.f
  exact iEach_l0 l m hl l.length 0 (by omega) (fun j hj => by omega)
theorem iSwappedAt_ev (l : List Int) (a : Int) (hl : l.length ≤ 1048576) : Ev (fun k => impl_SwappedAt.f k l a) (SWV l a) := by
  unfold impl_SwappedAt.f
  refine Ev.bind (iEachOnce_ev _ _ (by omega)) ?_
  by_cases he : EACH l (l.length : Int)
  · refine ev_pos (dec_pos he) ?_
    rw [wrap_id (x := (l.length : Int) - 1) (by omega) (by omega)]
    by_cases h0 : a < 0
    · refine ev_pos h0 (ev_some ?_)
      rw [SWV_neg (fun h => by have := h.2; omega)]
    · refine ev_neg h0 ?_
      by_cases h1 : a ≥ (l.length : Int) - 1
      · refine ev_pos h1 (ev_some ?_)
        rw [SWV_neg (fun h => by have := h.2; omega)]
      · refine ev_neg h1 ?_
        obtain ⟨n, rfl⟩ := Int.eq_ofNat_of_zero_le (show 0 ≤ a by omega)
        have hc : slices_Clone_int_int.f l = some l := if_pos (by omega)
        rw [wrap_succ (i := n) (by omega), SWV_pos ⟨he, by omega⟩, hc]
        simp only [Option.bind_some]
        exact ev_pos (by omega) (ev_pos (by omega) (ev_pos (by omega) (ev_pos (by omega) (Ev.now _))))
  · refine ev_neg (by rw [dec_neg he]; simp) (ev_some ?_)
    rw [SWV_neg (fun h => he h.1)]
theorem toIntS_l0 (l : List Int) (hl : l.length ≤ 1048576) : ∀ (d i : Nat) (o : List Int), i + d = l.length → o.length = l.length → (∀ j : Nat, j < i → rd o (j : Int) = rd l (j : Int)) →
    Ev (fun k => laws_toIntS.l0 k l o (i : Int)) l := by
  intro d
  induction d with
  | zero =>
    intro i o hi ho hr
    refine ev_succ ?_
    simp only [laws_toIntS.l0]
    refine ev_neg (by omega) (ev_some ?_)
    exact rd_ext ho (fun j hj => hr j (by omega))
  | succ d ih =>
    intro i o hi ho hr
    refine ev_succ ?_
    simp only [laws_toIntS.l0]
    refine ev_pos (by omega) (ev_pos (by omega) (ev_pos (by omega) ?_))
    rw [wrap_succ (by omega)]
    refine ih (i + 1) _ (by omega) (by rw [List.length_set]; exact ho) ?_
    intro j hj
    show rd (o.set i _) _ = _
    rw [rd_set o i j _ (by omega)]
    by_cases e : j = i
    · rw [if_pos e, e]
    · rw [if_neg e]; exact hr j (by omega)
theorem toIntS_ev (l : List Int) (hl : l.length ≤ 1048576) : Ev (fun k => laws_toIntS.f k l) l := by
  unfold laws_toIntS.f
  refine ev_pos (by omega) (ev_pos (by omega) ?_)
  refine toIntS_l0 l hl l.length 0 _ (by omega) (by simp) (fun j hj => by omega)
theorem eqIntS_l0 (a b : List Int) (hl : a.length ≤ 9223372036854775806) (hb : a.length = b.length) : ∀ (d i : Nat), i + d = a.length → (∀ j : Nat, j < i → rd a (j : Int) = rd b (j : Int)) →
    Ev (fun k => laws_eqIntS.l0 k a b (i : Int)) (dec (a = b)) := by
  intro d
  induction d with
  | zero =>
    intro i hi hr
    refine ev_succ ?_
    simp only [laws_eqIntS.l0]
    refine ev_neg (by omega) (ev_some ?_)
    exact (dec_pos (rd_ext hb (fun j hj => hr j (by omega)))).symm
  | succ d ih =>
    intro i hi hr
    refine ev_succ ?_
    simp only [laws_eqIntS.l0]
    refine ev_pos (by omega) (ev_pos (by omega) (ev_pos (by omega) ?_))
    by_cases h : rd a (i : Int) = rd b (i : Int)
    · refine ev_pos h ?_
      rw [wrap_succ (by omega)]
      refine ih (i + 1) (by omega) ?_
      intro j hj
      by_cases e : j = i
      · rw [e]; exact h
      · exact hr j (by omega)
    · refine ev_neg h (ev_some (dec_neg ?_).symm)
      intro e; exact h (by rw [e])
theorem eqIntS_ev (a b : List Int) (hl : a.length ≤ 9223372036854775806) : Ev (fun k => laws_eqIntS.f k a b) (dec (a = b)) := by
  unfold laws_eqIntS.f
  by_cases h : a.length = b.length
  · refine ev_pos (by omega) ?_
    exact eqIntS_l0 a b hl h a.length 0 (by omega) (fun j hj => by omega)
  · refine ev_neg (by omega) (ev_some (dec_neg ?_).symm)
    intro e; exact h (by rw [e])
def MKI (l o : List Int) : Prop := o.length = l.length ∧ ∀ j : Nat, j < l.length → rd o (j : Int) = 1 + (j : Int)
theorem markIntS_l0 (l : List Int) (hl : l.length ≤ 4611686018427387000) : ∀ (d i : Nat) (o : List Int), i + d = l.length → o.length = l.length → (∀ j : Nat, j < i → rd o (j : Int) = 1 + (j : Int)) →
    ∃ q, MKI l q ∧ Ev (fun k => laws_markIntS.l0 k o (1 + (i : Int)) (i : Int)) (1 + (l.length : Int), q) := by
  intro d
  induction d with
  | zero =>
    intro i o hi ho hr
    refine ⟨o, ⟨ho, fun j hj => hr j (by omega)⟩, ev_succ ?_⟩
    simp only [laws_markIntS.l0]
    refine ev_neg (by omega) (ev_some ?_)
    rw [show (i : Int) = (l.length : Int) by omega]
  | succ d ih =>
    intro i o hi ho hr
    have e1 : wrap64 (1 + (i : Int) + 1) = 1 + ((i + 1 : Nat) : Int) := by rw [wrap_id (by omega) (by omega)]; omega
    obtain ⟨q, hq, he⟩ := ih (i + 1) (o.set i (1 + (i : Int))) (by omega) (by rw [List.length_set]; exact ho) (by
      intro j hj
      rw [rd_set _ i j _ (by omega)]
      by_cases e : j = i
      · rw [if_pos e, e]
      · rw [if_neg e]; exact hr j (by omega))
    refine ⟨q, hq, ev_succ ?_⟩
    simp only [laws_markIntS.l0, e1]
    refine ev_pos (by omega) (ev_pos (by omega) ?_)
    rw [wrap_succ (by omega)]
    exact he
theorem markIntS_ev (l : List Int) (hl : l.length ≤ 4611686018427387000) : ∃ q, MKI l q ∧ Ev (fun k => laws_markIntS.f k l 1) (1 + (l.length : Int), q) :=
  markIntS_l0 l hl l.length 0 l (by omega) rfl (fun j hj => by omega)
theorem heldIntS_l0 (l o : List Int) (hl : l.length ≤ 4611686018427387000) (hm : MKI l o) : ∀ (d i : Nat), i + d = l.length → Ev (fun k => laws_heldIntS.l0 k o (1 + (i : Int)) (i : Int)) (1 + (l.length : Int)) := by
  intro d
  induction d with
  | zero =>
    intro i hi
    refine ev_succ ?_
    simp only [laws_heldIntS.l0]
    refine ev_neg (by have := hm.1; omega) (ev_some ?_)
    rw [show (i : Int) = (l.length : Int) by omega]
  | succ d ih =>
    intro i hi
    have e1 : wrap64 (1 + (i : Int) + 1) = 1 + ((i + 1 : Nat) : Int) := by rw [wrap_id (by omega) (by omega)]; omega
    have hi2 := hm.2 i (by omega)
    refine ev_succ ?_
    simp only [laws_heldIntS.l0, e1]
    refine ev_pos (by have := hm.1; omega) (ev_pos (by omega) ?_)
    rw [hi2]
    refine ev_pos rfl ?_
    rw [wrap_succ (by omega)]
    exact ih (i + 1) (by omega)
theorem heldIntS_ev (l o : List Int) (hl : l.length ≤ 4611686018427387000) (hm : MKI l o) : Ev (fun k => laws_heldIntS.f k o 1) (1 + (l.length : Int)) :=
  heldIntS_l0 l o hl hm l.length 0 (by omega)
theorem FnExactSwappedAt_j0 (l0 : List Int) (a1 : Int) (h : l0.length ≤ 1048576) : Ev (fun k => laws_FnExactSwappedAt.j0 k l0 a1 (SWV l0 a1).1 (SWV l0 a1).2 l0 (SWV l0 a1).1 (SWV l0 a1).2 false) true := by
  have hl := SWV_len l0 a1
  obtain ⟨q0, _, hm0⟩ := markIntS_ev l0 (by omega)
  obtain ⟨q, hq, hm⟩ := markIntS_ev (SWV l0 a1).1 (by omega)
  have hh := heldIntS_ev _ q (by omega) hq
  refine ev_succ ?_
  simp only [laws_FnExactSwappedAt.j0]
  refine ev_neg (by simp) (Ev.bind (toIntS_ev l0 h) (Ev.bind (eqIntS_ev _ _ (by omega)) (ev_pos (dec_pos rfl) (Ev.bind hm0 (ev_neg (by simp only; omega) (Ev.bind (eqIntS_ev _ _ (by omega)) (ev_pos (dec_pos rfl) ?_)))))))
  simp only [bne_self_eq_false]
  refine ev_succ ?_
  simp only [laws_FnExactSwappedAt.j1]
  refine ev_neg (by simp) (Ev.bind hm (Ev.bind hh (ev_neg (by omega) (ev_pos rfl (Ev.bind (toIntS_ev l0 h) (Ev.bind (iSwappedAt_ev _ _ h) (Ev.bind (eqIntS_ev _ _ (by omega)) (ev_pos (dec_pos rfl) ?_))))))))
  simp only [bne_self_eq_false]
  refine ev_succ ?_
  simp only [laws_FnExactSwappedAt.j2]
  exact ev_neg (by simp) (Ev.bind hh (ev_neg (by omega) (ev_pos rfl (Ev.now _))))
theorem FnExactSwappedAt : laws_FnExactSwappedAt.Pure := by
  intro l0 a1 _ _ _ _
  refine Ev.rounds ?_
  unfold laws_FnExactSwappedAt.f
  by_cases h : (l0.length : Int) > 1048576
  · exact ev_pos h (Ev.now _)
  · have hl : l0.length ≤ 1048576 := by omega
    have hs := SWV_len l0 a1
    refine ev_neg h (Ev.bind (toIntS_ev l0 hl) (Ev.bind (sSwappedAt_ev l0 a1 (by omega)) (Ev.bind (toIntS_ev l0 hl) (Ev.bind (iSwappedAt_ev l0 a1 (by omega)) (Ev.bind (eqIntS_ev _ _ (by omega)) (ev_pos (dec_pos rfl) ?_))))))
    simp only [bne_self_eq_false]
    exact FnExactSwappedAt_j0 l0 a1 hl
end Go.Proofs.Ytclodndgieefcaa.Pure
