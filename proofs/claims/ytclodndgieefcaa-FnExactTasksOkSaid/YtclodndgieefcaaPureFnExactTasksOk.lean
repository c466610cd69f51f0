/- The law FnExactTasksOk holds for every input; nothing is assumed. -/
import Derived.Test.YtclodndgieefcaaPFnExactTasksOkx2
namespace Go.Proofs.Ytclodndgieefcaa.Pure
open Go.RowKit Go.Proofs.Ytclodndgieefcaa.PFnExactTasksOk Go.Proofs.YtclodndgieefcaaW.PrintWords Go.Proofs.YtclodndgieefcaaW.PrintLast Go.Proofs.YtclodndgieefcaaW.PrintMore
set_option linter.unusedVariables false
set_option linter.unusedSimpArgs false
theorem ev_succ {α : Type} {g : Nat → Option α} {r : α} (h : Ev (fun k => g (k + 1)) r) : Ev g r := Ev.step (fun _ => rfl) h
theorem ev_pos {α : Type} {c : Prop} [Decidable c] {f g : Nat → Option α} {r : α} (h : c) (k : Ev f r) : Ev (fun n => if c then f n else g n) r := Ev.congr (fun _ => if_pos h) k
theorem ev_neg {α : Type} {c : Prop} [Decidable c] {f g : Nat → Option α} {r : α} (h : ¬c) (k : Ev g r) : Ev (fun n => if c then f n else g n) r := Ev.congr (fun _ => if_neg h) k
theorem ev_some {α : Type} {x r : α} (h : x = r) : Ev (fun _ => some x) r := h ▸ Ev.now x
theorem ev_to {α : Type} {g : Nat → Option α} {a r : α} (h : Ev g a) (e : a = r) : Ev g r := e ▸ h
/-- Whether P. -/
noncomputable def dec (P : Prop) : Bool := @decide P (Classical.propDecidable P)
theorem dec_iff {P : Prop} : dec P = true ↔ P := @decide_eq_true_iff P (Classical.propDecidable P)
theorem dec_pos {P : Prop} (h : P) : dec P = true := dec_iff.2 h
theorem dec_neg {P : Prop} (h : ¬P) : dec P = false := by
  cases e : dec P
  · rfl
  · exact absurd (dec_iff.1 e) h
theorem dec_congr {P Q : Prop} (h : P ↔ Q) : dec P = dec Q := by rw [propext h]
theorem dec_of {P : Prop} [Decidable P] : decide P = dec P := by
  by_cases h : P
  · rw [dec_pos h, decide_eq_true h]
  · rw [dec_neg h, decide_eq_false h]
theorem dec_bool {b : Bool} : b = dec (b = true) := by
  cases b
  · exact (dec_neg (by simp)).symm
  · exact (dec_pos rfl).symm
/-- From i on: at i, and from i + 1 on. -/
theorem from_step {i n : Nat} {Q : Nat → Prop} (h : i < n) : (∀ j, i ≤ j → j < n → Q j) ↔ Q i ∧ ∀ j, i + 1 ≤ j → j < n → Q j := by
  constructor
  · exact fun a => ⟨a i (Nat.le_refl _) h, fun j h1 h2 => a j (by omega) h2⟩
  · intro a j h1 h2
    by_cases e : j = i
    · exact e ▸ a.1
    · exact a.2 j (by omega) h2
theorem from_end {n : Nat} {Q : Nat → Prop} : ∀ j, n ≤ j → j < n → Q j := fun j h1 h2 => by omega
theorem wrap_id {x : Int} (h0 : -9223372036854775808 ≤ x) (h1 : x ≤ 9223372036854775807) : wrap64 x = x := by unfold wrap64; omega
theorem wrap_succ {i : Nat} (h : i ≤ 9223372036854775806) : wrap64 ((i : Int) + 1) = ((i + 1 : Nat) : Int) := by unfold wrap64; omega
theorem wrap_pred {i : Nat} (h : i ≤ 9223372036854775806) : wrap64 ((i : Int) - 1) = (i : Int) - 1 := by unfold wrap64; omega
/-- The bounds of a number of the kind int. -/
def I64 (x : Int) : Prop := -9223372036854775808 ≤ x ∧ x ≤ 9223372036854775807
theorem i64_wf {x : Int} (h : (Lit.int .i64 x).wf = true) : I64 x := by
  have h' : (decide (IntKind.i64.min ≤ x) && decide (x ≤ IntKind.i64.max)) = true := h
  have a : IntKind.i64.min = -9223372036854775808 := by decide
  have b : IntKind.i64.max = 9223372036854775807 := by decide
  rw [a, b] at h'
  simpa [I64] using h'
theorem sTask_nat (l : List S36) (i : Nat) : rd_T36 l (i : Int) = l.getD i z36 := rfl
theorem sTask_get {l : List S36} {i : Nat} (h : i < l.length) : rd_T36 l (i : Int) = l[i] := by
  rw [sTask_nat, List.getD_eq_getElem?_getD, List.getElem?_eq_getElem h]; rfl
theorem sTask_set (l : List S36) (i j : Nat) (v : S36) (h : i < l.length) : rd_T36 (l.set i v) (j : Int) = if j = i then v else rd_T36 l (j : Int) := by
  rw [sTask_nat, sTask_nat, List.getD_eq_getElem?_getD, List.getElem?_set]
  by_cases e : i = j
  · subst e; rw [if_pos rfl, if_pos h, if_pos rfl]; rfl
  · rw [if_neg e, if_neg (fun x => e x.symm), ← List.getD_eq_getElem?_getD]
theorem sTask_app (l : List S36) (v : S36) (j : Nat) : rd_T36 (l ++ [v]) (j : Int) = if j < l.length then rd_T36 l (j : Int) else if j = l.length then v else z36 := by
  rw [sTask_nat, sTask_nat, List.getD_eq_getElem?_getD, List.getD_eq_getElem?_getD, List.getElem?_append]
  by_cases h : j < l.length
  · rw [if_pos h, if_pos h]
  · rw [if_neg h, if_neg h]
    by_cases e : j = l.length
    · subst e; rw [if_pos rfl]; simp
    · rw [if_neg e, List.getElem?_eq_none (by simp; omega)]; rfl
theorem sTask_take (l : List S36) (n j : Nat) (h : j < n) : rd_T36 (l.take n) (j : Int) = rd_T36 l (j : Int) := by
  rw [sTask_nat, sTask_nat, List.getD_eq_getElem?_getD, List.getElem?_take, if_pos h, ← List.getD_eq_getElem?_getD]
theorem sTask_drop (l : List S36) (n j : Nat) : rd_T36 (l.drop n) (j : Int) = rd_T36 l ((n + j : Nat) : Int) := by
  rw [sTask_nat, sTask_nat, List.getD_eq_getElem?_getD, List.getElem?_drop, ← List.getD_eq_getElem?_getD]
theorem sTask_ext {a b : List S36} (hl : a.length = b.length) (h : ∀ j : Nat, j < a.length → rd_T36 a (j : Int) = rd_T36 b (j : Int)) : a = b := by
  refine List.ext_getElem hl fun j h1 h2 => ?_
  have := h j h1
  rw [sTask_get h1, sTask_get h2] at this
  exact this
def TIn (x : S36) : Prop := (1 ≤ x.f0 ∧ x.f0 ≤ 9) ∧ 0 ≤ x.f1 ∧ x.f1 ≤ 9
/-- Tasks. -/
def TOK (l : List S36) : Prop := (∀ j : Nat, 0 ≤ j → j < l.length → TIn (rd_T36 l (j : Int))) ∧ 1 ≤ (l.length : Int) ∧ (l.length : Int) ≤ 6
theorem l1In_eq (a b c : Int) : spec_l1In.f a b c = some (dec (b ≤ a ∧ a ≤ c)) := by
  unfold spec_l1In.f
  by_cases h : a ≥ b
  · rw [if_pos h]
    by_cases h2 : a ≤ c
    · rw [decide_eq_true h2, dec_pos ⟨h, h2⟩]
    · rw [decide_eq_false h2, dec_neg (fun x => h2 x.2)]
  · rw [if_neg h, dec_neg (fun x => h x.1)]
theorem l1In_ev (a b c : Int) : Ev (fun _ => spec_l1In.f a b c) (dec (b ≤ a ∧ a ≤ c)) := Ev.congr (fun _ => l1In_eq a b c) (Ev.now _)
theorem sTasksOk_l0 (l : List S36) (hl : l.length ≤ 9223372036854775806) : ∀ d i : Nat, i + d = l.length →
    Ev (fun k => spec_TasksOk.l0 k l (i : Int)) (dec ((∀ j : Nat, i ≤ j → j < l.length → TIn (rd_T36 l (j : Int))) ∧ 1 ≤ (l.length : Int) ∧ (l.length : Int) ≤ 6)) := by
  intro d
  induction d with
  | zero =>
    intro i hi
    refine ev_succ ?_
    simp only [spec_TasksOk.l0]
    refine ev_neg (by omega) (Ev.bind (l1In_ev _ _ _) (ev_some (dec_congr ?_)))
    obtain rfl : i = l.length := by omega
    exact ⟨fun h => ⟨from_end, h⟩, fun h => h.2⟩
  | succ d ih =>
    intro i hi
    refine ev_succ ?_
    simp only [spec_TasksOk.l0]
    have hs := from_step (i := i) (n := l.length) (Q := fun j => TIn (rd_T36 l (j : Int))) (by omega)
    refine ev_pos (by omega) (ev_pos (by omega) (Ev.bind (l1In_ev _ _ _) ?_))
    by_cases h1 : 1 ≤ (rd_T36 l (i : Int)).f0 ∧ (rd_T36 l (i : Int)).f0 ≤ 9
    · refine ev_pos (dec_pos h1) (Ev.bind (l1In_ev _ _ _) ?_)
      by_cases h2 : 0 ≤ (rd_T36 l (i : Int)).f1 ∧ (rd_T36 l (i : Int)).f1 ≤ 9
      · refine ev_pos (dec_pos h2) ?_
        rw [wrap_succ (by omega)]
        refine ev_to (ih (i + 1) (by omega)) (dec_congr ?_)
        rw [hs]
        exact ⟨fun x => ⟨⟨⟨h1, h2⟩, x.1⟩, x.2⟩, fun x => ⟨x.1.2, x.2⟩⟩
      · exact ev_neg (by rw [dec_neg h2]; simp) (ev_some (dec_neg (fun x => h2 (hs.1 x.1).1.2)).symm)
    · exact ev_neg (by rw [dec_neg h1]; simp) (ev_some (dec_neg (fun x => h1 (hs.1 x.1).1.1)).symm)
theorem sTasksOk_ev (l : List S36) (hl : l.length ≤ 9223372036854775806) : Ev (fun k => spec_TasksOk.f k l) (dec (TOK l)) := sTasksOk_l0 l hl l.length 0 (by omega)
theorem iTasksOk_l0 (l : List S36) (hl : l.length ≤ 9223372036854775806) : ∀ d i : Nat, i + d = l.length →
    Ev (fun k => impl_TasksOk.l0 k l l (l.length : Int) (i : Int)) (dec ((∀ j : Nat, i ≤ j → j < l.length → TIn (rd_T36 l (j : Int))) ∧ 1 ≤ (l.length : Int) ∧ (l.length : Int) ≤ 6)) := by
  intro d
  induction d with
  | zero =>
    intro i hi
    refine ev_succ ?_
    simp only [impl_TasksOk.l0]
    refine ev_neg (by omega) ?_
    obtain rfl : i = l.length := by omega
    by_cases h : (l.length : Int) ≥ 1
    · refine ev_pos h (ev_some ?_)
      rw [dec_of]
      exact dec_congr ⟨fun e => ⟨from_end, h, e⟩, fun e => e.2.2⟩
    · exact ev_neg h (ev_some (dec_neg (fun e => h e.2.1)).symm)
  | succ d ih =>
    intro i hi
    refine ev_succ ?_
    simp only [impl_TasksOk.l0]
    have hs := from_step (i := i) (n := l.length) (Q := fun j => TIn (rd_T36 l (j : Int))) (by omega)
    refine ev_pos (by omega) (ev_pos (by omega) (ev_pos (by omega) ?_))
    by_cases h1 : (rd_T36 l (i : Int)).f0 < 1
    · exact ev_pos h1 (ev_some (dec_neg (fun x => by have := (hs.1 x.1).1.1.1; omega)).symm)
    refine ev_neg h1 ?_
    by_cases h2 : (rd_T36 l (i : Int)).f0 > 9
    · exact ev_pos h2 (ev_some (dec_neg (fun x => by have := (hs.1 x.1).1.1.2; omega)).symm)
    refine ev_neg h2 ?_
    by_cases h3 : (rd_T36 l (i : Int)).f1 < 0
    · exact ev_pos h3 (ev_some (dec_neg (fun x => by have := (hs.1 x.1).1.2.1; omega)).symm)
    refine ev_neg h3 ?_
    by_cases h4 : (rd_T36 l (i : Int)).f1 > 9
    · exact ev_pos h4 (ev_some (dec_neg (fun x => by have := (hs.1 x.1).1.2.2; omega)).symm)
    refine ev_neg h4 ?_
    rw [wrap_succ (by omega)]
    refine ev_to (ih (i + 1) (by omega)) (dec_congr ?_)
    rw [hs]
    exact ⟨fun x => ⟨⟨⟨⟨by omega, by omega⟩, by omega, by omega⟩, x.1⟩, x.2⟩, fun x => ⟨x.1.2, x.2⟩⟩
theorem iTasksOk_ev (l : List S36) (hl : l.length ≤ 9223372036854775806) : Ev (fun k => impl_TasksOk.f k l) (dec (TOK l)) := iTasksOk_l0 l hl l.length 0 (by omega)
def cvTask (x : S53) : S36 := ⟨x.f0, x.f1⟩
theorem toTaskS_l0 (l : List S53) (hl : l.length ≤ 1048576) : ∀ (d i : Nat) (o : List S36), i + d = l.length → o.length = l.length → (∀ j : Nat, j < i → rd_T36 o (j : Int) = cvTask (rd_T53 l (j : Int))) →
    Ev (fun k => laws_toTaskS.l0 k l o (i : Int)) (l.map cvTask) := by
  intro d
  induction d with
  | zero =>
    intro i o hi ho hr
    refine ev_succ ?_
    simp only [laws_toTaskS.l0]
    refine ev_neg (by omega) (ev_some ?_)
    refine sTask_ext (by rw [List.length_map]; exact ho) (fun j hj => ?_)
    rw [hr j (by omega), sTask_nat, List.getD_eq_getElem?_getD, List.getElem?_map, List.getElem?_eq_getElem (by omega)]
    show cvTask (l.getD j _) = cvTask _
    rw [List.getD_eq_getElem?_getD, List.getElem?_eq_getElem (by omega)]; rfl
  | succ d ih =>
    intro i o hi ho hr
    refine ev_succ ?_
    simp only [laws_toTaskS.l0, laws_toTask.f, Option.bind_some]
    refine ev_pos (by omega) (ev_pos (by omega) (ev_pos (by omega) ?_))
    rw [wrap_succ (by omega)]
    refine ih (i + 1) _ (by omega) (by rw [List.length_set]; exact ho) ?_
    intro j hj
    rw [show ((i : Int).toNat) = i from rfl, sTask_set o i j _ (by omega)]
    by_cases e : j = i
    · rw [if_pos e, e]; rfl
    · rw [if_neg e]; exact hr j (by omega)
theorem toTaskS_ev (l : List S53) (hl : l.length ≤ 1048576) : Ev (fun k => laws_toTaskS.f k l) (l.map cvTask) := by
  unfold laws_toTaskS.f
  refine ev_pos (by omega) (ev_pos (by omega) ?_)
  refine toTaskS_l0 l hl l.length 0 _ (by omega) (by simp) (fun j hj => by omega)
theorem szTaskS_eq (l : List S53) (hl : l.length ≤ 1048576) : laws_szTaskS.f l 1048576 = some (1048576 - (l.length : Int)) := by
  unfold laws_szTaskS.f
  rw [wrap_id (by omega) (by omega), if_neg (by omega)]
theorem szTaskS_big (l : List S53) (h0 : l.length ≤ 9223372036854775807) (hl : ¬ l.length ≤ 1048576) : laws_szTaskS.f l 1048576 = some (-1) := by
  unfold laws_szTaskS.f
  rw [wrap_id (by omega) (by omega), if_pos (by omega)]
theorem eqTaskS_l0 (a b : List S36) (hl : a.length ≤ 9223372036854775806) (hb : a.length = b.length) : ∀ (d i : Nat), i + d = a.length → (∀ j : Nat, j < i → rd_T36 a (j : Int) = rd_T36 b (j : Int)) →
    Ev (fun k => laws_eqTaskS.l0 k a b (i : Int)) (dec (a = b)) := by
  intro d
  induction d with
  | zero =>
    intro i hi hr
    refine ev_succ ?_
    simp only [laws_eqTaskS.l0]
    refine ev_neg (by omega) (ev_some ?_)
    exact (dec_pos (sTask_ext hb (fun j hj => hr j (by omega)))).symm
  | succ d ih =>
    intro i hi hr
    refine ev_succ ?_
    simp only [laws_eqTaskS.l0, laws_eqTask.f]
    refine ev_pos (by omega) (ev_pos (by omega) (ev_pos (by omega) ?_))
    by_cases h : (rd_T36 a (i : Int)).f0 = (rd_T36 b (i : Int)).f0
    · by_cases h2 : (rd_T36 a (i : Int)).f1 = (rd_T36 b (i : Int)).f1
      · rw [if_pos h, if_pos h2]
        simp only [Option.bind_some]
        refine ev_pos (by simp) ?_
        rw [wrap_succ (by omega)]
        refine ih (i + 1) (by omega) ?_
        intro j hj
        by_cases e : j = i
        · rw [e]
          cases ha : rd_T36 a (i : Int); cases hb' : rd_T36 b (i : Int)
          rw [ha, hb'] at h h2
          simp only at h h2
          rw [h, h2]
        · exact hr j (by omega)
      · rw [if_pos h, if_neg h2]
        simp only [Option.bind_some]
        refine ev_neg (by simp) (ev_some (dec_neg ?_).symm)
        intro e; exact h2 (by rw [e])
    · rw [if_neg h]
      simp only [Option.bind_some]
      refine ev_neg (by simp) (ev_some (dec_neg ?_).symm)
      intro e; exact h (by rw [e])
theorem eqTaskS_ev (a b : List S36) (hl : a.length ≤ 9223372036854775806) : Ev (fun k => laws_eqTaskS.f k a b) (dec (a = b)) := by
  unfold laws_eqTaskS.f
  by_cases h : a.length = b.length
  · refine ev_pos (by omega) ?_
    exact eqTaskS_l0 a b hl h a.length 0 (by omega) (fun j hj => by omega)
  · refine ev_neg (by omega) (ev_some (dec_neg ?_).symm)
    intro e; exact h (by rw [e])
theorem FnExactTasksOk (l0 : List S53) (h0 : l0.length ≤ 9223372036854775807) : ∃ k, laws_FnExactTasksOk.f k l0 = some true := by
  refine Ev.rounds ?_
  unfold laws_FnExactTasksOk.f
  by_cases h : l0.length ≤ 1048576
  · have e : (l0.map cvTask).length ≤ 9223372036854775806 := by rw [List.length_map]; omega
    rw [szTaskS_eq l0 h]
    refine Ev.bind (Ev.now _) (ev_neg (by omega) (Ev.bind (toTaskS_ev l0 h) (Ev.bind (sTasksOk_ev _ e) (Ev.bind (toTaskS_ev l0 h) (Ev.bind (iTasksOk_ev _ e) ?_)))))
    refine ev_neg (by simp) (Ev.bind (toTaskS_ev l0 h) (Ev.bind (eqTaskS_ev _ _ e) ?_))
    exact ev_pos (dec_pos rfl) (Ev.now _)
  · rw [szTaskS_big l0 h0 h]
    exact Ev.bind (Ev.now _) (ev_pos (by omega) (Ev.now _))
end Go.Proofs.Ytclodndgieefcaa.Pure
