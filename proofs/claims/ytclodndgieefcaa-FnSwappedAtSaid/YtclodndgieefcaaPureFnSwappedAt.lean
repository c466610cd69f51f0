/- The law FnSwappedAt holds for every input; nothing is assumed. -/
import Derived.Test.YtclodndgieefcaaQFnSwappedAtx3
namespace Go.Proofs.Ytclodndgieefcaa.Pure
open Go.RowKit Go.Proofs.Ytclodndgieefcaa.PFnSwappedAt Go.Proofs.YtclodndgieefcaaW.PrintWords Go.Proofs.YtclodndgieefcaaW.PrintLast Go.Proofs.YtclodndgieefcaaW.PrintMore
set_option linter.unusedVariables false
set_option linter.unusedSimpArgs false
theorem ev_succ {α : Type} {g : Nat → Option α} {r : α} (h : Ev (fun k => g (k + 1)) r) : Ev g r := Ev.step (fun _ => rfl) h
theorem ev_pos {α : Type} {c : Prop} [Decidable c] {f g : Nat → Option α} {r : α} (h : c) (k : Ev f r) : Ev (fun n => if c then f n else g n) r := Ev.congr (fun _ => if_pos h) k
theorem ev_neg {α : Type} {c : Prop} [Decidable c] {f g : Nat → Option α} {r : α} (h : ¬c) (k : Ev g r) : Ev (fun n => if c then f n else g n) r := Ev.congr (fun _ => if_neg h) k
theorem ev_some {α : Type} {x r : α} (h : x = r) : Ev (fun _ => some x) r := h ▸ Ev.now x
theorem ev_to {α : Type} {g : Nat → Option α} {a r : α} (h : Ev g a) (e : a = r) : Ev g r := e ▸ h
/-- Whether P. -/
noncomputable def dec (P : Prop) : Bool := @decide P (Classical.propDecidable P)
theorem dec_iff {P : Prop} : dec P = true ↔ P := @decide_eq_true_iff P (Classical.propDecidable P)
theorem dec_pos {P : Prop} (h : P) : dec P = true := dec_iff.2 h
theorem dec_neg {P : Prop} (h : ¬P) : dec P = false := by
  cases e : dec P
  · rfl
  · exact absurd (dec_iff.1 e) h
theorem dec_congr {P Q : Prop} (h : P ↔ Q) : dec P = dec Q := by rw [propext h]
theorem dec_of {P : Prop} [Decidable P] : decide P = dec P := by
  by_cases h : P
  · rw [dec_pos h, decide_eq_true h]
  · rw [dec_neg h, decide_eq_false h]
theorem dec_bool {b : Bool} : b = dec (b = true) := by
  cases b
  · exact (dec_neg (by simp)).symm
  · exact (dec_pos rfl).symm
/-- From i on: at i, and from i + 1 on. -/
theorem from_step {i n : Nat} {Q : Nat → Prop} (h : i < n) : (∀ j, i ≤ j → j < n → Q j) ↔ Q i ∧ ∀ j, i + 1 ≤ j → j < n → Q j := by
  constructor
  · exact fun a => ⟨a i (Nat.le_refl _) h, fun j h1 h2 => a j (by omega) h2⟩
  · intro a j h1 h2
    by_cases e : j = i
    · exact e ▸ a.1
    · exact a.2 j (by omega) h2
theorem from_end {n : Nat} {Q : Nat → Prop} : ∀ j, n ≤ j → j < n → Q j := fun j h1 h2 => by omega
theorem wrap_id {x : Int} (h0 : -9223372036854775808 ≤ x) (h1 : x ≤ 9223372036854775807) : wrap64 x = x := by unfold wrap64; omega
theorem wrap_succ {i : Nat} (h : i ≤ 9223372036854775806) : wrap64 ((i : Int) + 1) = ((i + 1 : Nat) : Int) := by unfold wrap64; omega
theorem wrap_pred {i : Nat} (h : i ≤ 9223372036854775806) : wrap64 ((i : Int) - 1) = (i : Int) - 1 := by unfold wrap64; omega
/-- The bounds of a number of the kind int. -/
def I64 (x : Int) : Prop := -9223372036854775808 ≤ x ∧ x ≤ 9223372036854775807
theorem i64_wf {x : Int} (h : (Lit.int .i64 x).wf = true) : I64 x := by
  have h' : (decide (IntKind.i64.min ≤ x) && decide (x ≤ IntKind.i64.max)) = true := h
  have a : IntKind.i64.min = -9223372036854775808 := by decide
  have b : IntKind.i64.max = 9223372036854775807 := by decide
  rw [a, b] at h'
  simpa [I64] using h'
theorem rd_nat (l : List Int) (i : Nat) : rd l (i : Int) = l.getD i 0 := rfl
theorem rd_set (l : List Int) (i j : Nat) (v : Int) (h : i < l.length) : rd (l.set i v) (j : Int) = if j = i then v else rd l (j : Int) := by
  rw [rd_nat, rd_nat, List.getD_eq_getElem?_getD, List.getElem?_set]
  by_cases e : i = j
  · subst e; rw [if_pos rfl, if_pos h, if_pos rfl]; rfl
  · rw [if_neg e, if_neg (fun x => e x.symm), ← List.getD_eq_getElem?_getD]
theorem rd_app (l : List Int) (v : Int) (j : Nat) : rd (l ++ [v]) (j : Int) = if j < l.length then rd l (j : Int) else if j = l.length then v else 0 := by
  rw [rd_nat, rd_nat, List.getD_eq_getElem?_getD, List.getD_eq_getElem?_getD, List.getElem?_append]
  by_cases h : j < l.length
  · rw [if_pos h, if_pos h]
  · rw [if_neg h, if_neg h]
    by_cases e : j = l.length
    · subst e; rw [if_pos rfl]; simp
    · rw [if_neg e, List.getElem?_eq_none (by simp; omega)]; rfl
theorem rd_take (l : List Int) (n j : Nat) (h : j < n) : rd (l.take n) (j : Int) = rd l (j : Int) := by
  rw [rd_nat, rd_nat, List.getD_eq_getElem?_getD, List.getElem?_take, if_pos h, ← List.getD_eq_getElem?_getD]
theorem rd_ext {a b : List Int} (hl : a.length = b.length) (h : ∀ j : Nat, j < a.length → rd a (j : Int) = rd b (j : Int)) : a = b := by
  refine List.ext_getElem hl fun j h1 h2 => ?_
  have := h j h1
  rw [rd_nat, rd_nat, List.getD_eq_getElem?_getD, List.getD_eq_getElem?_getD, List.getElem?_eq_getElem h1, List.getElem?_eq_getElem h2] at this
  exact this
theorem rd_out (l : List Int) (j : Nat) (h : l.length ≤ j) : rd l (j : Int) = 0 := by
  rw [rd_nat, List.getD_eq_getElem?_getD, List.getElem?_eq_none h]; rfl
theorem rd_mem {l : List Int} {j : Nat} (h : j < l.length) : rd l (j : Int) ∈ l := by
  rw [rd_nat, List.getD_eq_getElem?_getD, List.getElem?_eq_getElem h]; exact List.getElem_mem h
theorem rd_repl (n j : Nat) : rd (List.replicate n (0 : Int)) (j : Int) = 0 := by
  rw [rd_nat, List.getD_eq_getElem?_getD, List.getElem?_replicate]; split <;> rfl
/-- A row has each number from 0 up to m less 1 just once, 1 to 6 of them. -/
def EACH (l : List Int) (m : Int) : Prop := (∀ i : Nat, i < l.length → (0 ≤ rd l (i : Int) ∧ rd l (i : Int) < m) ∧ ∀ j : Nat, j < i → rd l (j : Int) ≠ rd l (i : Int)) ∧ (1 ≤ m ∧ m ≤ 6) ∧ (l.length : Int) = m
/-- Neighbours exchanged. -/
def sw (l : List Int) (a : Nat) : List Int := (l.set a (rd l ((a + 1 : Nat) : Int))).set (a + 1) (rd l (a : Int))
theorem sw_len (l : List Int) (a : Nat) : (sw l a).length = l.length := by simp [sw]
theorem rd_sw {l : List Int} {a : Nat} (h : a + 1 < l.length) (j : Nat) : rd (sw l a) (j : Int) = if j = a + 1 then rd l (a : Int) else if j = a then rd l ((a + 1 : Nat) : Int) else rd l (j : Int) := by
  unfold sw
  rw [rd_set _ _ _ _ (by rw [List.length_set]; omega), rd_set _ _ _ _ (by omega)]
def SWOK (l : List Int) (a : Int) : Prop := EACH l (l.length : Int) ∧ 0 ≤ a ∧ a ≤ (l.length : Int) - 2
noncomputable def SWV (l : List Int) (a : Int) : List Int × Bool := if dec (SWOK l a) = true then (sw l a.toNat, true) else ([], false)
theorem SWV_pos {l : List Int} {a : Int} (h : SWOK l a) : SWV l a = (sw l a.toNat, true) := by unfold SWV; rw [if_pos (dec_pos h)]
theorem SWV_neg {l : List Int} {a : Int} (h : ¬SWOK l a) : SWV l a = ([], false) := by unfold SWV; rw [if_neg (by rw [dec_neg h]; simp)]
theorem SWV_len (l : List Int) (a : Int) : (SWV l a).1.length ≤ l.length := by
  by_cases h : SWOK l a
  · rw [SWV_pos h]; simp only [sw_len]; omega
  · rw [SWV_neg h]; simp
theorem Index_l0 (l : List Int) (x : Int) (hl : l.length ≤ 9223372036854775806) : ∀ (d i : Nat), i + d = l.length → (∀ j : Nat, j < i → rd l (j : Int) ≠ x) →
    ∃ r, Ev (fun k => slices_Index_int_int.l0 k l x (l.length : Int) (i : Int)) r ∧ (0 ≤ r ↔ ∃ j : Nat, j < l.length ∧ rd l (j : Int) = x) := by
  intro d
  induction d with
  | zero =>
    intro i hi hr
    refine ⟨-1, ev_succ ?_, ?_⟩
    · simp only [slices_Index_int_int.l0]
      exact ev_neg (by omega) (Ev.now _)
    · constructor
      · intro h; omega
      · rintro ⟨j, h1, h2⟩; exact absurd h2 (hr j (by omega))
  | succ d ih =>
    intro i hi hr
    by_cases h : x = rd l (i : Int)
    · refine ⟨i, ev_succ ?_, ?_⟩
      · simp only [slices_Index_int_int.l0]
        refine ev_pos (by omega) (ev_pos (by omega) (ev_pos (by omega) (ev_pos h (Ev.now _))))
      · exact ⟨fun _ => ⟨i, by omega, h.symm⟩, fun _ => by omega⟩
    · obtain ⟨r, h1, h2⟩ := ih (i + 1) (by omega) (fun j hj => by
        by_cases e : j = i
        · rw [e]; exact fun e2 => h e2.symm
        · exact hr j (by omega))
      refine ⟨r, ev_succ ?_, h2⟩
      simp only [slices_Index_int_int.l0]
      refine ev_pos (by omega) (ev_pos (by omega) (ev_pos (by omega) (ev_neg h ?_)))
      rw [wrap_succ (by omega)]
      exact h1
theorem Contains_ev (l : List Int) (x : Int) (hl : l.length ≤ 9223372036854775806) : Ev (fun k => slices_Contains_int_int.f k l x) (dec (∃ j : Nat, j < l.length ∧ rd l (j : Int) = x)) := by
  unfold slices_Contains_int_int.f
  obtain ⟨r, h1, h2⟩ := Index_l0 l x hl l.length 0 (by omega) (fun j hj => by omega)
  refine Ev.bind (a := r) ?_ (ev_some ?_)
  · unfold slices_Index_int_int.f; exact h1
  · rw [dec_of]; exact dec_congr h2
theorem iEach_l0 (l : List Int) (m : Int) (hl : l.length ≤ 9223372036854775806) : ∀ d i : Nat, i + d = l.length → (∀ j : Nat, j < i → (0 ≤ rd l (j : Int) ∧ rd l (j : Int) < m) ∧ ∀ j' : Nat, j' < j → rd l (j' : Int) ≠ rd l (j : Int)) →
    Ev (fun k => impl_EachOnce.l0 k l m l (l.length : Int) (i : Int)) (dec (EACH l m)) := by
  intro d
  induction d with
  | zero =>
    intro i hi hr
    refine ev_succ ?_
    simp only [impl_EachOnce.l0]
    refine ev_neg (by omega) ?_
    by_cases h1 : m ≥ 1
    · refine ev_pos h1 ?_
      by_cases h2 : m ≤ 6
      · refine ev_pos h2 (ev_some ?_)
        rw [dec_bool (b := _ == _)]
        refine dec_congr ?_
        simp only [beq_iff_eq]
        exact ⟨fun e => ⟨fun j hj => hr j (by omega), ⟨h1, h2⟩, e⟩, fun e => e.2.2⟩
      · exact ev_neg h2 (ev_some (dec_neg (fun e => h2 e.2.1.2)).symm)
    · exact ev_neg h1 (ev_some (dec_neg (fun e => h1 e.2.1.1)).symm)
  | succ d ih =>
    intro i hi hr
    refine ev_succ ?_
    simp only [impl_EachOnce.l0]
    refine ev_pos (by omega) (ev_pos (by omega) (ev_pos (by omega) ?_))
    by_cases h1 : rd l (i : Int) < 0
    · refine ev_pos h1 (ev_some (dec_neg ?_).symm)
      intro e; have := (e.1 i (by omega)).1.1; omega
    · refine ev_neg h1 ?_
      by_cases h2 : rd l (i : Int) ≥ m
      · refine ev_pos h2 (ev_some (dec_neg ?_).symm)
        intro e; have := (e.1 i (by omega)).1.2; omega
      · refine ev_neg h2 (ev_pos (by omega) (Ev.bind (Contains_ev _ _ (by rw [List.length_take]; omega)) ?_))
        by_cases h3 : ∃ j : Nat, j < (l.take (i : Int).toNat).length ∧ rd (l.take (i : Int).toNat) (j : Int) = rd l (i : Int)
        · refine ev_pos (dec_pos h3) (ev_some (dec_neg ?_).symm)
          intro e
          obtain ⟨j, hj, he⟩ := h3
          have hj' : j < i := by rw [List.length_take] at hj; omega
          rw [show ((i : Int).toNat) = i from rfl, rd_take _ _ _ hj'] at he
          exact (e.1 i (by omega)).2 j hj' he
        · refine ev_neg (by rw [dec_neg h3]; simp) ?_
          rw [wrap_succ (by omega)]
          refine ih (i + 1) (by omega) ?_
          intro j hj
          by_cases e : j = i
          · subst e
            refine ⟨⟨by omega, by omega⟩, fun j' hj' he => h3 ⟨j', ?_, ?_⟩⟩
            · rw [List.length_take]; omega
            · rw [show ((j : Int).toNat) = j from rfl, rd_take _ _ _ hj']; exact he
          · exact hr j (by omega)
theorem iEachOnce_ev (l : List Int) (m : Int) (hl : l.length ≤ 9223372036854775806) : Ev (fun k => impl_EachOnce.f k l m) (dec (EACH l m)) := by
  unfold impl_EachOnce.f
  exact iEach_l0 l m hl l.length 0 (by omega) (fun j hj => by omega)
theorem iSwappedAt_ev (l : List Int) (a : Int) (hl : l.length ≤ 1048576) : Ev (fun k => impl_SwappedAt.f k l a) (SWV l a) := by
  unfold impl_SwappedAt.f
  refine Ev.bind (iEachOnce_ev _ _ (by omega)) ?_
  by_cases he : EACH l (l.length : Int)
  · refine ev_pos (dec_pos he) ?_
    rw [wrap_id (x := (l.length : Int) - 1) (by omega) (by omega)]
    by_cases h0 : a < 0
    · refine ev_pos h0 (ev_some ?_)
      rw [SWV_neg (fun h => by have := h.2; omega)]
    · refine ev_neg h0 ?_
      by_cases h1 : a ≥ (l.length : Int) - 1
      · refine ev_pos h1 (ev_some ?_)
        rw [SWV_neg (fun h => by have := h.2; omega)]
      · refine ev_neg h1 ?_
        obtain ⟨n, rfl⟩ := Int.eq_ofNat_of_zero_le (show 0 ≤ a by omega)
        have hc : slices_Clone_int_int.f l = some l := if_pos (by omega)
        rw [wrap_succ (i := n) (by omega), SWV_pos ⟨he, by omega⟩, hc]
        simp only [Option.bind_some]
        exact ev_pos (by omega) (ev_pos (by omega) (ev_pos (by omega) (ev_pos (by omega) (Ev.now _))))
  · refine ev_neg (by rw [dec_neg he]; simp) (ev_some ?_)
    rw [SWV_neg (fun h => he h.1)]
theorem l1In_eq (a b c : Int) : spec_l1In.f a b c = some (dec (b ≤ a ∧ a ≤ c)) := by
  unfold spec_l1In.f
  by_cases h : a ≥ b
  · rw [if_pos h]
    by_cases h2 : a ≤ c
    · rw [decide_eq_true h2, dec_pos ⟨h, h2⟩]
    · rw [decide_eq_false h2, dec_neg (fun x => h2 x.2)]
  · rw [if_neg h, dec_neg (fun x => h x.1)]
theorem l1In_ev (a b c : Int) : Ev (fun _ => spec_l1In.f a b c) (dec (b ≤ a ∧ a ≤ c)) := Ev.congr (fun _ => l1In_eq a b c) (Ev.now _)
def EACHs (l : List Int) (m : Int) (i : Nat) : Prop := (∀ j : Nat, i ≤ j → j < l.length → (0 ≤ rd l (j : Int) ∧ rd l (j : Int) ≤ wrap64 (m - 1)) ∧ ∀ j' : Nat, 0 ≤ j' → j' < j → rd l (j' : Int) ≠ rd l (j : Int)) ∧ (1 ≤ m ∧ m ≤ 6) ∧ (l.length : Int) = m
theorem sEach_l1 (l : List Int) (m : Int) (hl : l.length ≤ 9223372036854775806) (i : Nat) (hi : i < l.length) (R : Prop) (H : Ev (fun k => spec_EachOnce.l0 k l m ((i + 1 : Nat) : Int)) (dec R)) :
    ∀ d j : Nat, j + d = i → Ev (fun k => spec_EachOnce.l1 k l m (i : Int) (j : Int)) (dec ((∀ j' : Nat, j ≤ j' → j' < i → rd l (j' : Int) ≠ rd l (i : Int)) ∧ R)) := by
  intro d
  induction d with
  | zero =>
    intro j hj
    obtain rfl : j = i := by omega
    refine ev_succ ?_
    simp only [spec_EachOnce.l1]
    refine ev_neg (by omega) ?_
    rw [wrap_succ (by omega)]
    exact ev_to H (dec_congr ⟨fun h => ⟨from_end, h⟩, fun h => h.2⟩)
  | succ d ih =>
    intro j hj
    refine ev_succ ?_
    simp only [spec_EachOnce.l1]
    refine ev_pos (by omega) (ev_pos (by omega) (ev_pos (by omega) (ev_pos (by omega) (ev_pos (by omega) ?_))))
    by_cases e : rd l (j : Int) = rd l (i : Int)
    · refine ev_pos e (ev_some (dec_neg ?_).symm)
      intro h; exact h.1 j (Nat.le_refl _) (by omega) e
    · refine ev_neg e ?_
      rw [wrap_succ (by omega)]
      refine ev_to (ih (j + 1) (by omega)) (dec_congr ?_)
      rw [from_step (i := j) (n := i) (by omega)]
      exact ⟨fun h => ⟨⟨e, h.1⟩, h.2⟩, fun h => ⟨h.1.2, h.2⟩⟩
theorem sEach_l0 (l : List Int) (m : Int) (hl : l.length ≤ 9223372036854775806) : ∀ d i : Nat, i + d = l.length → Ev (fun k => spec_EachOnce.l0 k l m (i : Int)) (dec (EACHs l m i)) := by
  intro d
  induction d with
  | zero =>
    intro i hi
    refine ev_succ ?_
    simp only [spec_EachOnce.l0]
    refine ev_neg (by omega) (Ev.bind (l1In_ev _ _ _) ?_)
    obtain rfl : i = l.length := by omega
    by_cases h : 1 ≤ m ∧ m ≤ 6
    · refine ev_pos (dec_pos h) (ev_some ?_)
      rw [dec_bool (b := _ == _)]
      refine dec_congr ?_
      simp only [beq_iff_eq]
      exact ⟨fun e => ⟨from_end, h, e⟩, fun e => e.2.2⟩
    · refine ev_neg (by rw [dec_neg h]; simp) (ev_some (dec_neg (fun e => h e.2.1)).symm)
  | succ d ih =>
    intro i hi
    refine ev_succ ?_
    simp only [spec_EachOnce.l0]
    refine ev_pos (by omega) (ev_pos (by omega) (Ev.bind (l1In_ev _ _ _) ?_))
    have hs := from_step (i := i) (n := l.length) (Q := fun j => (0 ≤ rd l (j : Int) ∧ rd l (j : Int) ≤ wrap64 (m - 1)) ∧ ∀ j' : Nat, 0 ≤ j' → j' < j → rd l (j' : Int) ≠ rd l (j : Int)) (by omega)
    by_cases h : 0 ≤ rd l (i : Int) ∧ rd l (i : Int) ≤ wrap64 (m - 1)
    · refine ev_pos (dec_pos h) ?_
      refine ev_to (sEach_l1 l m hl i (by omega) _ (ih (i + 1) (by omega)) i 0 (by omega)) (dec_congr ?_)
      unfold EACHs
      rw [hs]
      exact ⟨fun x => ⟨⟨⟨h, x.1⟩, x.2.1⟩, x.2.2⟩, fun x => ⟨x.1.1.2, x.1.2, x.2⟩⟩
    · refine ev_neg (by rw [dec_neg h]; simp) (ev_some (dec_neg ?_).symm)
      intro x; exact h (hs.1 x.1).1.1
theorem sEachOnce_ev (l : List Int) (m : Int) (hl : l.length ≤ 9223372036854775806) : Ev (fun k => spec_EachOnce.f k l m) (dec (EACH l m)) := by
  unfold spec_EachOnce.f
  refine ev_to (sEach_l0 l m hl l.length 0 (by omega)) (dec_congr ?_)
  unfold EACHs EACH
  constructor
  · rintro ⟨h, hm, hn⟩
    rw [wrap_id (by omega) (by omega)] at h
    exact ⟨fun i hi => ⟨⟨(h i (by omega) hi).1.1, by have := (h i (by omega) hi).1.2; omega⟩, fun j hj => (h i (by omega) hi).2 j (by omega) hj⟩, hm, hn⟩
  · rintro ⟨h, hm, hn⟩
    rw [wrap_id (by omega) (by omega)]
    exact ⟨fun i _ hi => ⟨⟨(h i hi).1.1, by have := (h i hi).1.2; omega⟩, fun j _ hj => (h i hi).2 j hj⟩, hm, hn⟩
theorem sSwappedAt_ev (l : List Int) (a : Int) (hl : l.length ≤ 1048576) : Ev (fun k => spec_SwappedAt.f k l a) (SWV l a) := by
  unfold spec_SwappedAt.f
  refine Ev.bind (sEachOnce_ev _ _ (by omega)) ?_
  by_cases he : EACH l (l.length : Int)
  · refine ev_pos (dec_pos he) (Ev.bind (l1In_ev _ _ _) ?_)
    rw [wrap_id (x := (l.length : Int) - 2) (by omega) (by omega)]
    by_cases ha : 0 ≤ a ∧ a ≤ (l.length : Int) - 2
    · refine ev_pos (dec_pos ha) ?_
      obtain ⟨n, rfl⟩ := Int.eq_ofNat_of_zero_le ha.1
      rw [wrap_succ (i := n) (by omega), SWV_pos ⟨he, ha⟩]
      simp only [Option.bind_some, List.nil_append, List.length_nil]
      exact ev_pos (by omega) (ev_pos (by omega) (ev_pos (by omega) (ev_pos (by omega) (ev_pos (by omega) (Ev.now _)))))
    · refine ev_neg (by rw [dec_neg ha]; simp) (ev_some ?_)
      rw [SWV_neg (fun h => ha h.2)]
  · refine ev_neg (by rw [dec_neg he]; simp) (ev_some ?_)
    rw [SWV_neg (fun h => he h.1)]
theorem each_sw_lt {l : List Int} {m : Int} {a : Nat} (h : EACH l m) (ha : a + 1 < l.length) : EACH (sw l a) m := by
  have hn : ∀ x y : Nat, x < l.length → y < l.length → x ≠ y → rd l (x : Int) ≠ rd l (y : Int) := by
    intro x y hx hy e
    rcases Nat.lt_or_gt_of_ne e with c | c
    · exact (h.1 y hy).2 x c
    · exact fun e2 => (h.1 x hx).2 y c e2.symm
  refine ⟨fun i hi => ?_, h.2.1, by rw [sw_len]; exact h.2.2⟩
  rw [sw_len] at hi
  refine ⟨?_, fun j hj => ?_⟩
  · rw [rd_sw ha]
    split
    · exact (h.1 _ (by omega)).1
    · split
      · exact (h.1 _ ha).1
      · exact (h.1 _ hi).1
  · rw [rd_sw ha, rd_sw ha]
    split <;> split <;> (try split) <;> (try split) <;> (try omega) <;> first | exact hn _ _ (by omega) (by omega) (by omega) | skip
theorem sw_sw {l : List Int} {a : Nat} (ha : a + 1 < l.length) : sw (sw l a) a = l := by
  refine rd_ext (by rw [sw_len, sw_len]) (fun j hj => ?_)
  rw [rd_sw (by rw [sw_len]; exact ha), rd_sw ha, rd_sw ha, rd_sw ha]
  split
  · rename_i e; rw [if_neg (by omega), if_pos rfl, e]
  · split
    · rename_i e; rw [if_pos rfl, e]
    · rfl
/-- Bytes. -/
def BY (l : List Int) : Prop := l.length ≤ 2000 ∧ ∀ j : Nat, j < l.length → 0 ≤ rd l (j : Int) ∧ rd l (j : Int) ≤ 255
theorem by_of {l : List Int} (h : ∀ x ∈ l, (Lit.int .u8 x).wf = true) (j : Nat) (hj : j < l.length) : 0 ≤ rd l (j : Int) ∧ rd l (j : Int) ≤ 255 := by
  have h1 := h _ (rd_mem hj)
  have h2 : (decide (IntKind.u8.min ≤ rd l (j : Int)) && decide (rd l (j : Int) ≤ IntKind.u8.max)) = true := h1
  have a : IntKind.u8.min = 0 := by decide
  have b : IntKind.u8.max = 255 := by decide
  rw [a, b] at h2
  simpa using h2
theorem xor_nonneg {a b : Int} (ha : 0 ≤ a) (ha2 : a < 4611686018427387904) (hb : 0 ≤ b) (hb2 : b < 4611686018427387904) : 0 ≤ Go.bits .xor .i64 a b := by
  obtain ⟨m, rfl⟩ := Int.eq_ofNat_of_zero_le ha
  obtain ⟨n, rfl⟩ := Int.eq_ofNat_of_zero_le hb
  have hm : m < 2 ^ 62 := by omega
  have hn : n < 2 ^ 62 := by omega
  have hx : m ^^^ n < 2 ^ 62 := Nat.xor_lt_two_pow hm hn
  have e : Go.bits .xor .i64 (m : Int) (n : Int) = Go.IntKind.wrap .i64 ((m ^^^ n : Nat) : Int) := by
    show Go.IntKind.wrap .i64 ((BitVec.ofInt 64 (m : Int) ^^^ BitVec.ofInt 64 (n : Int)).toNat : Int) = _
    rw [BitVec.ofInt_natCast, BitVec.ofInt_natCast, BitVec.toNat_xor, BitVec.toNat_ofNat, BitVec.toNat_ofNat, Nat.mod_eq_of_lt (by omega), Nat.mod_eq_of_lt (by omega)]
  rw [e, Go.IntKind.wrap_i64]
  omega
theorem tmod_in {x n : Int} (h : 0 ≤ x) (hn : 0 < n) : 0 ≤ Int.tmod x n ∧ Int.tmod x n < n := ⟨Int.tmod_nonneg _ h, Int.tmod_lt_of_pos _ hn⟩
theorem rd_by {l : List Int} (h : BY l) (x : Int) (h0 : 0 ≤ x) (h1 : x < (l.length : Int)) : 0 ≤ rd l x ∧ rd l x ≤ 255 := by
  obtain ⟨m, rfl⟩ := Int.eq_ofNat_of_zero_le h0
  exact h.2 m (by omega)
theorem pick_ev {l : List Int} (h : BY l) {p : Int} (h0 : 0 ≤ p) (hp : p ≤ 1073741824) (n : Int) : ∃ v, Ev (fun k => spec_l20Rd_pick.f k l p n) (v, p + 1) ∧ 0 ≤ v ∧ (0 < n → v < n) := by
  unfold spec_l20Rd_pick.f
  rw [wrap_id (x := p + 1) (by omega) (by omega)]
  by_cases hn : n < 1
  · refine ⟨0, ev_pos hn (ev_succ ?_), Int.le_refl _, fun h => h⟩
    simp only [spec_l20Rd_pick.j0]
    exact ev_pos (by simp) (Ev.now _)
  · have hl := h.1
    by_cases hz : l.length = 0
    · refine ⟨0, ev_neg hn (ev_succ ?_), Int.le_refl _, fun h => h⟩
      simp only [spec_l20Rd_pick.j0]
      exact ev_pos (by simp [hz]) (Ev.now _)
    · have e1 : wrap64 (p + 1 - 1) = p := by rw [wrap_id (by omega) (by omega)]; omega
      by_cases hlt : p < (l.length : Int)
      · have hb := rd_by h p h0 hlt
        refine ⟨Int.tmod (wrap64 (rd l p)) n, ev_neg hn (ev_succ ?_), ?_⟩
        · simp only [spec_l20Rd_pick.j0, e1]
          exact ev_neg (by rw [beq_iff_eq]; omega) (ev_pos hlt (ev_pos h0 (ev_neg (by omega) (Ev.now _))))
        · rw [wrap_id (by omega) (by omega)]
          exact ⟨(tmod_in hb.1 (by omega)).1, fun _ => (tmod_in hb.1 (by omega)).2⟩
      · have b1 := tmod_in h0 (n := (l.length : Int)) (by omega)
        have r1 := rd_by h _ b1.1 b1.2
        have e2 : wrap64 (wrap64 (p * 7) + 3) = p * 7 + 3 := by rw [wrap_id (x := p * 7) (by omega) (by omega), wrap_id (by omega) (by omega)]
        have b2 := tmod_in (x := p * 7 + 3) (by omega) (n := (l.length : Int)) (by omega)
        have r2 := rd_by h _ b2.1 b2.2
        have d1 : 0 ≤ Int.tdiv p (l.length : Int) := Int.tdiv_nonneg h0 (by omega)
        have d2 : Int.tdiv p (l.length : Int) ≤ p := Int.tdiv_le_self _ h0
        obtain ⟨x, hx⟩ : ∃ x, x = rd l (Int.tmod p (l.length : Int)) * 131 + rd l (Int.tmod (p * 7 + 3) (l.length : Int)) * 1117 + p * 29 + Int.tdiv p (l.length : Int) * 53 := ⟨_, rfl⟩
        have ex : wrap64 (wrap64 (wrap64 (wrap64 (wrap64 (rd l (Int.tmod p (l.length : Int))) * 131) + wrap64 (wrap64 (rd l (Int.tmod (p * 7 + 3) (l.length : Int))) * 1117)) + wrap64 (p * 29)) + wrap64 (wrap64 (Int.tdiv p (l.length : Int)) * 53)) = x := by
          rw [wrap_id (x := rd l (Int.tmod p (l.length : Int))) (by omega) (by omega), wrap_id (x := rd l (Int.tmod (p * 7 + 3) (l.length : Int))) (by omega) (by omega), wrap_id (x := Int.tdiv p (l.length : Int)) (by omega) (by omega),
            wrap_id (x := rd l (Int.tmod p (l.length : Int)) * 131) (by omega) (by omega), wrap_id (x := rd l (Int.tmod (p * 7 + 3) (l.length : Int)) * 1117) (by omega) (by omega), wrap_id (x := p * 29) (by omega) (by omega),
            wrap_id (x := Int.tdiv p (l.length : Int) * 53) (by omega) (by omega), wrap_id (x := rd l (Int.tmod p (l.length : Int)) * 131 + _) (by omega) (by omega), wrap_id (x := rd l (Int.tmod p (l.length : Int)) * 131 + rd l (Int.tmod (p * 7 + 3) (l.length : Int)) * 1117 + p * 29) (by omega) (by omega), wrap_id (by omega) (by omega), hx]
        have hx0 : 0 ≤ x := by omega
        have hx1 : x < 4611686018427387904 := by omega
        have d3 : 0 ≤ Int.tdiv x 64 := Int.tdiv_nonneg hx0 (by omega)
        have d4 : Int.tdiv x 64 ≤ x := Int.tdiv_le_self _ hx0
        have e3 : wrap64 (Int.tdiv x 64) = Int.tdiv x 64 := wrap_id (by omega) (by omega)
        have hxor := xor_nonneg hx0 hx1 d3 (by omega)
        refine ⟨Int.tmod (Go.bits .xor .i64 x (Int.tdiv x 64)) n, ev_neg hn (ev_succ ?_), (tmod_in hxor (by omega)).1, fun _ => (tmod_in hxor (by omega)).2⟩
        simp only [spec_l20Rd_pick.j0, e1, e2, ex, e3]
        exact ev_neg (by rw [beq_iff_eq]; omega) (ev_neg hlt (ev_neg (by omega) (ev_pos b1.1 (ev_pos b1.2 (ev_pos b2.1 (ev_pos b2.2 (ev_neg (by omega) (Ev.now _))))))))
theorem l20Perm_l0 {B : List Int} (h : BY B) (n : Nat) (hn : n ≤ 1000) : ∀ (d i : Nat) (o : List Int) (p : Int), i + d = n → o.length = i → 0 ≤ p → p + d ≤ 1073741000 →
    ∃ t q, Ev (fun k => spec_l20Perm.l0 k (n : Int) o (i : Int) B p) (t, q) ∧ t.length = n ∧ 0 ≤ q ∧ q ≤ p + d := by
  intro d
  induction d with
  | zero =>
    intro i o p hi ho h0 hp
    refine ⟨o, p, ev_succ ?_, by omega, h0, by omega⟩
    simp only [spec_l20Perm.l0]
    exact ev_neg (by omega) (Ev.now _)
  | succ d ih =>
    intro i o p hi ho h0 hp
    obtain ⟨v, hv, hv0, hv2⟩ := pick_ev h h0 (by omega) ((i + 1 : Nat) : Int)
    have hv2 := hv2 (by omega)
    have l1 : (o.take v.toNat).length ≤ o.length := by rw [List.length_take]; omega
    have l2 : (o.drop v.toNat).length ≤ o.length := by rw [List.length_drop]; omega
    have l3 : (([] : List Int) ++ o.take v.toNat ++ [(i : Int)] ++ o.drop v.toNat).length = i + 1 := by simp; omega
    obtain ⟨t, q, ht, hl, hq0, hq⟩ := ih (i + 1) (([] : List Int) ++ o.take v.toNat ++ [(i : Int)] ++ o.drop v.toNat) (p + 1) (by omega) l3 (by omega) (by omega)
    refine ⟨t, q, ev_succ ?_, hl, hq0, by omega⟩
    simp only [spec_l20Perm.l0, Option.bind_some]
    rw [wrap_succ (by omega)]
    exact ev_pos (by omega) (Ev.bind hv (ev_pos hv0 (ev_pos (by simp only; omega) (ev_pos (by simp; omega) (ev_pos (by simp; omega) (ev_pos (by simp; omega) ht))))))
theorem l20Perm_ev {B : List Int} (h : BY B) (n : Nat) (hn : n ≤ 1000) {p : Int} (h0 : 0 ≤ p) (hp : p ≤ 1073000000) : ∃ t q, Ev (fun k => spec_l20Perm.f k B p (n : Int)) (t, q) ∧ t.length = n ∧ 0 ≤ q ∧ q ≤ p + n := by
  unfold spec_l20Perm.f
  exact l20Perm_l0 h n hn n 0 [] p (by omega) rfl h0 (by omega)
theorem open_ev {l : List Int} (h : ∀ x ∈ l, (Lit.int .u8 x).wf = true) : ∃ q, BY q ∧ Ev (fun _ => spec_l20Open.f l) (q, 0) := by
  unfold spec_l20Open.f
  by_cases h1 : (l.length : Int) > 2000
  · refine ⟨l.take 2000, ⟨by rw [List.length_take]; omega, fun j hj => ?_⟩, ev_pos h1 (ev_pos (by omega) (Ev.now _))⟩
    rw [List.length_take] at hj
    rw [rd_take _ _ _ (by omega)]
    exact by_of h j (by omega)
  · exact ⟨l, ⟨by omega, fun j hj => by_of h j hj⟩, ev_neg h1 (Ev.now _)⟩
theorem odd_ev {l : List Int} (h : BY l) {p : Int} (h0 : 0 ≤ p) (hp : p ≤ 1073741824) (n : Int) : ∃ b q, Ev (fun k => spec_l20Rd_odd.f k l p n) (b, q) ∧ 0 ≤ q ∧ q ≤ p + 1 := by
  unfold spec_l20Rd_odd.f
  by_cases hn : n > 0
  · obtain ⟨v, hv, _⟩ := pick_ev h h0 hp n
    exact ⟨_, _, ev_pos hn (Ev.bind hv (Ev.now _)), by simp only; omega, by simp only; omega⟩
  · exact ⟨_, _, ev_neg hn (Ev.now _), h0, by omega⟩
theorem DrawSwappedAt_ev {l : List Int} (h : ∀ x ∈ l, (Lit.int .u8 x).wf = true) : ∃ t m, Ev (fun k => spec_DrawSwappedAt.f k l) (t, m) ∧ t.length ≤ 100 := by
  unfold spec_DrawSwappedAt.f
  obtain ⟨B, hB, ho⟩ := open_ev h
  obtain ⟨v, hv, hv0, hv6⟩ := pick_ev hB (p := 0) (by omega) (by omega) 6
  have hv6 := hv6 (by omega)
  obtain ⟨n, hn⟩ := Int.eq_ofNat_of_zero_le (show 0 ≤ 1 + v by omega)
  have e1 : wrap64 (1 + v) = (n : Int) := by rw [wrap_id (by omega) (by omega), hn]
  obtain ⟨t, q, ht, hl, hq0, hq⟩ := l20Perm_ev hB n (by omega) (p := 0 + 1) (by omega) (by omega)
  obtain ⟨u, q2, hu, hu0, hu1⟩ := odd_ev hB hq0 (by omega) 9
  obtain ⟨b, hb, _, _⟩ := pick_ev hB hu0 (by omega) 7
  obtain ⟨c, hc, _, _⟩ := pick_ev hB (p := q2 + 1) (by omega) (by omega) 20
  cases u
  · refine ⟨t, wrap64 (b - wrap64 (Int.tdiv c 19)), Ev.bind ho (Ev.bind hv ?h), ?l⟩
    case h =>
      simp only [e1]
      exact Ev.bind ht (Ev.bind hu (ev_neg (by simp) (Ev.bind hb (Ev.bind hc (Ev.now _)))))
    case l => omega
  · refine ⟨t.set 0 7, wrap64 (b - wrap64 (Int.tdiv c 19)), Ev.bind ho (Ev.bind hv ?h), ?l⟩
    case h =>
      simp only [e1]
      exact Ev.bind ht (Ev.bind hu (ev_pos (by simp) (ev_pos (by simp only; omega) (Ev.bind hb (Ev.bind hc (Ev.now _))))))
    case l => simp only [List.length_set]; omega
theorem sameInts_l0 (a b : List Int) (hl : a.length ≤ 9223372036854775806) (hb : a = b) : ∀ (d i : Nat), i + d = a.length → Ev (fun k => laws_sameInts.l0 k a b (i : Int)) true := by
  subst hb
  intro d
  induction d with
  | zero =>
    intro i hi
    refine ev_succ ?_
    simp only [laws_sameInts.l0]
    exact ev_neg (by omega) (Ev.now _)
  | succ d ih =>
    intro i hi
    refine ev_succ ?_
    simp only [laws_sameInts.l0]
    rw [wrap_succ (i := i) (by omega)]
    exact ev_pos (by omega) (ev_pos (by omega) (ev_pos (by omega) (ev_pos (by simp) (ih (i + 1) (by omega)))))
theorem sameInts_ev (a b : List Int) (hl : a.length ≤ 9223372036854775806) (hb : a = b) : Ev (fun k => laws_sameInts.f k a b) true := by
  unfold laws_sameInts.f
  exact ev_pos (by rw [hb]) (sameInts_l0 a b hl hb a.length 0 (by omega))
theorem sCustomer_nat (l : List S60) (i : Nat) : rd_T60 l (i : Int) = l.getD i z60 := rfl
theorem sCustomer_get {l : List S60} {i : Nat} (h : i < l.length) : rd_T60 l (i : Int) = l[i] := by
  rw [sCustomer_nat, List.getD_eq_getElem?_getD, List.getElem?_eq_getElem h]; rfl
theorem sCustomer_set (l : List S60) (i j : Nat) (v : S60) (h : i < l.length) : rd_T60 (l.set i v) (j : Int) = if j = i then v else rd_T60 l (j : Int) := by
  rw [sCustomer_nat, sCustomer_nat, List.getD_eq_getElem?_getD, List.getElem?_set]
  by_cases e : i = j
  · subst e; rw [if_pos rfl, if_pos h, if_pos rfl]; rfl
  · rw [if_neg e, if_neg (fun x => e x.symm), ← List.getD_eq_getElem?_getD]
theorem sCustomer_app (l : List S60) (v : S60) (j : Nat) : rd_T60 (l ++ [v]) (j : Int) = if j < l.length then rd_T60 l (j : Int) else if j = l.length then v else z60 := by
  rw [sCustomer_nat, sCustomer_nat, List.getD_eq_getElem?_getD, List.getD_eq_getElem?_getD, List.getElem?_append]
  by_cases h : j < l.length
  · rw [if_pos h, if_pos h]
  · rw [if_neg h, if_neg h]
    by_cases e : j = l.length
    · subst e; rw [if_pos rfl]; simp
    · rw [if_neg e, List.getElem?_eq_none (by simp; omega)]; rfl
theorem sCustomer_take (l : List S60) (n j : Nat) (h : j < n) : rd_T60 (l.take n) (j : Int) = rd_T60 l (j : Int) := by
  rw [sCustomer_nat, sCustomer_nat, List.getD_eq_getElem?_getD, List.getElem?_take, if_pos h, ← List.getD_eq_getElem?_getD]
theorem sCustomer_drop (l : List S60) (n j : Nat) : rd_T60 (l.drop n) (j : Int) = rd_T60 l ((n + j : Nat) : Int) := by
  rw [sCustomer_nat, sCustomer_nat, List.getD_eq_getElem?_getD, List.getElem?_drop, ← List.getD_eq_getElem?_getD]
theorem sCustomer_ext {a b : List S60} (hl : a.length = b.length) (h : ∀ j : Nat, j < a.length → rd_T60 a (j : Int) = rd_T60 b (j : Int)) : a = b := by
  refine List.ext_getElem hl fun j h1 h2 => ?_
  have := h j h1
  rw [sCustomer_get h1, sCustomer_get h2] at this
  exact this
def CIn (l : List S60) (j : Nat) : Prop := (0 ≤ (rd_T60 l (j : Int)).f0 ∧ (rd_T60 l (j : Int)).f0 ≤ 60) ∧ (1 ≤ (rd_T60 l (j : Int)).f1 ∧ (rd_T60 l (j : Int)).f1 ≤ 9) ∧ (0 < j → (rd_T60 l ((j : Int) - 1)).f0 ≤ (rd_T60 l (j : Int)).f0)
/-- Customers. -/
def COK (l : List S60) : Prop := (∀ j : Nat, 0 ≤ j → j < l.length → CIn l j) ∧ (l.length : Int) ≤ 8
theorem iCustomersOk_l0 (l : List S60) (hl : l.length ≤ 9223372036854775806) : ∀ d i : Nat, i + d = l.length →
    Ev (fun k => impl_CustomersOk.l0 k l l (l.length : Int) (i : Int)) (dec ((∀ j : Nat, i ≤ j → j < l.length → CIn l j) ∧ (l.length : Int) ≤ 8)) := by
  intro d
  induction d with
  | zero =>
    intro i hi
    refine ev_succ ?_
    simp only [impl_CustomersOk.l0]
    refine ev_neg (by omega) (ev_some ?_)
    obtain rfl : i = l.length := by omega
    rw [dec_of]
    exact dec_congr ⟨fun h => ⟨from_end, h⟩, fun h => h.2⟩
  | succ d ih =>
    intro i hi
    refine ev_succ ?_
    simp only [impl_CustomersOk.l0]
    have hs := from_step (i := i) (n := l.length) (Q := fun j => CIn l j) (by omega)
    refine ev_pos (by omega) (ev_pos (by omega) (ev_pos (by omega) ?_))
    by_cases h1 : (rd_T60 l (i : Int)).f0 < 0
    · exact ev_pos h1 (ev_some (dec_neg (fun x => by have := (hs.1 x.1).1.1.1; omega)).symm)
    refine ev_neg h1 ?_
    by_cases h2 : (rd_T60 l (i : Int)).f0 > 60
    · exact ev_pos h2 (ev_some (dec_neg (fun x => by have := (hs.1 x.1).1.1.2; omega)).symm)
    refine ev_neg h2 ?_
    rw [wrap_succ (by omega), wrap_pred (by omega)]
    have fin : (0 < i → (rd_T60 l ((i : Int) - 1)).f0 ≤ (rd_T60 l (i : Int)).f0) → Ev (fun k => if (rd_T60 l (i : Int)).f1 < 1 then some false else if (rd_T60 l (i : Int)).f1 > 9 then some false else impl_CustomersOk.l0 k l l (l.length : Int) ((i + 1 : Nat) : Int)) (dec ((∀ j : Nat, i ≤ j → j < l.length → CIn l j) ∧ (l.length : Int) ≤ 8)) := by
      intro hp
      by_cases h3 : (rd_T60 l (i : Int)).f1 < 1
      · exact ev_pos h3 (ev_some (dec_neg (fun x => by have := (hs.1 x.1).1.2.1.1; omega)).symm)
      refine ev_neg h3 ?_
      by_cases h4 : (rd_T60 l (i : Int)).f1 > 9
      · exact ev_pos h4 (ev_some (dec_neg (fun x => by have := (hs.1 x.1).1.2.1.2; omega)).symm)
      refine ev_neg h4 (ev_to (ih (i + 1) (by omega)) (dec_congr ?_))
      rw [hs]
      exact ⟨fun x => ⟨⟨⟨⟨by omega, by omega⟩, ⟨by omega, by omega⟩, hp⟩, x.1⟩, x.2⟩, fun x => ⟨x.1.2, x.2⟩⟩
    by_cases h5 : (i : Int) > 0
    · refine ev_pos h5 (ev_pos (by omega) (ev_pos (by omega) ?_))
      by_cases h6 : (rd_T60 l (i : Int)).f0 < (rd_T60 l ((i : Int) - 1)).f0
      · exact ev_pos h6 (ev_some (dec_neg (fun x => by have := (hs.1 x.1).1.2.2 (by omega); omega)).symm)
      · exact ev_neg h6 (fin (fun _ => by omega))
    · exact ev_neg h5 (fin (fun h => by omega))
theorem iCustomersOk_ev (l : List S60) (hl : l.length ≤ 9223372036854775806) : Ev (fun k => impl_CustomersOk.f k l) (dec (COK l)) := iCustomersOk_l0 l hl l.length 0 (by omega)
theorem alive_ev : Ev (fun k => laws_alive.f k) true := by
  unfold laws_alive.f
  refine Ev.bind (iCustomersOk_ev _ (by decide)) (ev_pos (dec_pos ?_) (Ev.bind (iCustomersOk_ev _ (by decide)) (ev_some ?_)))
  · refine ⟨fun j _ hj => ?_, by decide⟩
    obtain rfl : j = 0 := by simp at hj; omega
    exact ⟨by decide, by decide, fun h => absurd h (by decide)⟩
  · rw [dec_neg]
    · rfl
    · intro h
      exact absurd (h.1 0 (Nat.le_refl _) (by decide)).2.1.1 (by decide)
theorem FnSwappedAt : laws_FnSwappedAt.Pure := by
  intro l0 _ _ hb
  refine Ev.rounds ?_
  unfold laws_FnSwappedAt.f
  by_cases h : (l0.length : Int) > 1048576
  · exact ev_pos h (Ev.now _)
  · obtain ⟨t, m, ht, hl⟩ := DrawSwappedAt_ev hb
    have hs := SWV_len t m
    refine ev_neg h (Ev.bind ht (Ev.bind (iSwappedAt_ev t m (by omega)) (Ev.bind (sSwappedAt_ev t m (by omega)) (Ev.bind (sameInts_ev _ _ (by omega) rfl) (ev_pos rfl ?_)))))
    simp only [bne_self_eq_false]
    refine ev_succ ?_
    simp only [laws_FnSwappedAt.j0]
    refine ev_neg (by simp) ?_
    by_cases c : SWOK t m
    · rw [SWV_pos c]
      obtain ⟨n, hn⟩ := Int.eq_ofNat_of_zero_le c.2.1
      have hn1 : n + 1 < t.length := by have := c.2.2; omega
      have en : m.toNat = n := by omega
      have e := each_sw_lt c.1 hn1
      have c2 : SWOK (sw t m.toNat) m := ⟨by rw [sw_len, en]; exact e, c.2.1, by rw [sw_len]; exact c.2.2⟩
      refine ev_pos rfl (Ev.bind (iSwappedAt_ev _ m (by rw [sw_len]; omega)) (Ev.bind (iEachOnce_ev _ _ (by rw [sw_len]; omega)) (ev_pos (dec_pos ?_) (ev_pos ?_ (Ev.bind (sameInts_ev _ _ ?_ ?_) (Ev.now _))))))
      · rw [en]; exact e
      · rw [SWV_pos c2]
      · rw [SWV_pos c2]; simp only [sw_len]; omega
      · rw [SWV_pos c2]; simp only [en]; exact sw_sw hn1
    · rw [SWV_neg c]
      exact ev_neg (by simp) (ev_pos (by simp) (Ev.bind alive_ev (Ev.now _)))
end Go.Proofs.Ytclodndgieefcaa.Pure
