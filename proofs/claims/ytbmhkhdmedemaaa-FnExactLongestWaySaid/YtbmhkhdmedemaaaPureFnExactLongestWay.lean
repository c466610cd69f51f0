/- The law FnExactLongestWay holds for every input; nothing is assumed. -/
import Derived.Test.YtbmhkhdmedemaaaPFnExactLongestWayx3
namespace Go.Proofs.Ytbmhkhdmedemaaa.Pure
open Go.RowKit Go.Proofs.Ytbmhkhdmedemaaa.PFnExactLongestWay Go.Proofs.YtbmhkhdmedemaaaW.PrintWords Go.Proofs.YtbmhkhdmedemaaaW.PrintLast Go.Proofs.YtbmhkhdmedemaaaW.PrintMore
set_option linter.unusedVariables false
set_option linter.unusedSimpArgs false
theorem ev_succ {α : Type} {g : Nat → Option α} {r : α} (h : Ev (fun k => g (k + 1)) r) : Ev g r := Ev.step (fun _ => rfl) h
theorem ev_pos {α : Type} {c : Prop} [Decidable c] {f g : Nat → Option α} {r : α} (h : c) (k : Ev f r) : Ev (fun n => if c then f n else g n) r := Ev.congr (fun _ => if_pos h) k
theorem ev_neg {α : Type} {c : Prop} [Decidable c] {f g : Nat → Option α} {r : α} (h : ¬c) (k : Ev g r) : Ev (fun n => if c then f n else g n) r := Ev.congr (fun _ => if_neg h) k
theorem ev_some {α : Type} {x r : α} (h : x = r) : Ev (fun _ => some x) r := h ▸ Ev.now x
theorem ev_to {α : Type} {g : Nat → Option α} {a r : α} (h : Ev g a) (e : a = r) : Ev g r := e ▸ h
/-- Whether P. -/
noncomputable def dec (P : Prop) : Bool := @decide P (Classical.propDecidable P)
theorem dec_iff {P : Prop} : dec P = true ↔ P := @decide_eq_true_iff P (Classical.propDecidable P)
theorem dec_pos {P : Prop} (h : P) : dec P = true := dec_iff.2 h
theorem dec_neg {P : Prop} (h : ¬P) : dec P = false := by
  cases e : dec P
  · rfl
  · exact absurd (dec_iff.1 e) h
theorem dec_congr {P Q : Prop} (h : P ↔ Q) : dec P = dec Q := by rw [propext h]
theorem dec_of {P : Prop} [Decidable P] : decide P = dec P := by
  by_cases h : P
  · rw [dec_pos h, decide_eq_true h]
  · rw [dec_neg h, decide_eq_false h]
theorem dec_bool {b : Bool} : b = dec (b = true) := by
  cases b
  · exact (dec_neg (by simp)).symm
  · exact (dec_pos rfl).symm
/-- From i on: at i, and from i + 1 on. -/
theorem from_step {i n : Nat} {Q : Nat → Prop} (h : i < n) : (∀ j, i ≤ j → j < n → Q j) ↔ Q i ∧ ∀ j, i + 1 ≤ j → j < n → Q j := by
  constructor
  · exact fun a => ⟨a i (Nat.le_refl _) h, fun j h1 h2 => a j (by omega) h2⟩
  · intro a j h1 h2
    by_cases e : j = i
    · exact e ▸ a.1
    · exact a.2 j (by omega) h2
theorem from_end {n : Nat} {Q : Nat → Prop} : ∀ j, n ≤ j → j < n → Q j := fun j h1 h2 => by omega
theorem wrap_id {x : Int} (h0 : -9223372036854775808 ≤ x) (h1 : x ≤ 9223372036854775807) : wrap64 x = x := by unfold wrap64; omega
theorem wrap_succ {i : Nat} (h : i ≤ 9223372036854775806) : wrap64 ((i : Int) + 1) = ((i + 1 : Nat) : Int) := by unfold wrap64; omega
theorem wrap_pred {i : Nat} (h : i ≤ 9223372036854775806) : wrap64 ((i : Int) - 1) = (i : Int) - 1 := by unfold wrap64; omega
/-- The bounds of a number of the kind int. -/
def I64 (x : Int) : Prop := -9223372036854775808 ≤ x ∧ x ≤ 9223372036854775807
theorem i64_wf {x : Int} (h : (Lit.int .i64 x).wf = true) : I64 x := by
  have h' : (decide (IntKind.i64.min ≤ x) && decide (x ≤ IntKind.i64.max)) = true := h
  have a : IntKind.i64.min = -9223372036854775808 := by decide
  have b : IntKind.i64.max = 9223372036854775807 := by decide
  rw [a, b] at h'
  simpa [I64] using h'
theorem sBoth_nat (l : List S32) (i : Nat) : rd_T32 l (i : Int) = l.getD i z32 := rfl
theorem sBoth_get {l : List S32} {i : Nat} (h : i < l.length) : rd_T32 l (i : Int) = l[i] := by
  rw [sBoth_nat, List.getD_eq_getElem?_getD, List.getElem?_eq_getElem h]; rfl
theorem sBoth_set (l : List S32) (i j : Nat) (v : S32) (h : i < l.length) : rd_T32 (l.set i v) (j : Int) = if j = i then v else rd_T32 l (j : Int) := by
  rw [sBoth_nat, sBoth_nat, List.getD_eq_getElem?_getD, List.getElem?_set]
  by_cases e : i = j
  · subst e; rw [if_pos rfl, if_pos h, if_pos rfl]; rfl
  · rw [if_neg e, if_neg (fun x => e x.symm), ← List.getD_eq_getElem?_getD]
theorem sBoth_app (l : List S32) (v : S32) (j : Nat) : rd_T32 (l ++ [v]) (j : Int) = if j < l.length then rd_T32 l (j : Int) else if j = l.length then v else z32 := by
  rw [sBoth_nat, sBoth_nat, List.getD_eq_getElem?_getD, List.getD_eq_getElem?_getD, List.getElem?_append]
  by_cases h : j < l.length
  · rw [if_pos h, if_pos h]
  · rw [if_neg h, if_neg h]
    by_cases e : j = l.length
    · subst e; rw [if_pos rfl]; simp
    · rw [if_neg e, List.getElem?_eq_none (by simp; omega)]; rfl
theorem sBoth_take (l : List S32) (n j : Nat) (h : j < n) : rd_T32 (l.take n) (j : Int) = rd_T32 l (j : Int) := by
  rw [sBoth_nat, sBoth_nat, List.getD_eq_getElem?_getD, List.getElem?_take, if_pos h, ← List.getD_eq_getElem?_getD]
theorem sBoth_drop (l : List S32) (n j : Nat) : rd_T32 (l.drop n) (j : Int) = rd_T32 l ((n + j : Nat) : Int) := by
  rw [sBoth_nat, sBoth_nat, List.getD_eq_getElem?_getD, List.getElem?_drop, ← List.getD_eq_getElem?_getD]
theorem sBoth_ext {a b : List S32} (hl : a.length = b.length) (h : ∀ j : Nat, j < a.length → rd_T32 a (j : Int) = rd_T32 b (j : Int)) : a = b := by
  refine List.ext_getElem hl fun j h1 h2 => ?_
  have := h j h1
  rw [sBoth_get h1, sBoth_get h2] at this
  exact this
def BIn (x : S32) : Prop := (1 ≤ x.f0 ∧ x.f0 ≤ 9) ∧ 1 ≤ x.f1 ∧ x.f1 ≤ 9
/-- Customers of two counters. -/
def BOK (l : List S32) : Prop := (∀ j : Nat, 0 ≤ j → j < l.length → BIn (rd_T32 l (j : Int))) ∧ 1 ≤ (l.length : Int) ∧ (l.length : Int) ≤ 6
/-- What the first i need at the first counter; at the second one. -/
def sF (l : List S32) : Nat → Int
  | 0 => 0
  | i + 1 => sF l i + (rd_T32 l (i : Int)).f0
def sS (l : List S32) : Nat → Int
  | 0 => 0
  | i + 1 => sS l i + (rd_T32 l (i : Int)).f1
theorem sF_in {l : List S32} (h : BOK l) : ∀ i : Nat, i ≤ l.length → (i : Int) ≤ sF l i ∧ sF l i ≤ 9 * (i : Int)
  | 0, _ => by simp [sF]
  | i + 1, hi => by
    have a := sF_in h i (by omega)
    have b := (h.1 i (Nat.zero_le _) (by omega)).1
    simp only [sF]; omega
theorem sS_in {l : List S32} (h : BOK l) : ∀ i : Nat, i ≤ l.length → (i : Int) ≤ sS l i ∧ sS l i ≤ 9 * (i : Int)
  | 0, _ => by simp [sS]
  | i + 1, hi => by
    have a := sS_in h i (by omega)
    have b := (h.1 i (Nat.zero_le _) (by omega)).2
    simp only [sS]; omega
theorem sS_mono {l : List S32} (h : BOK l) (j : Nat) : ∀ i : Nat, i ≤ j → j ≤ l.length → sS l i ≤ sS l j ∧ sS l j - sS l i ≤ 9 * ((j : Int) - i) := by
  induction j with
  | zero => intro i hi _; obtain rfl : i = 0 := by omega
            exact ⟨Int.le_refl _, by omega⟩
  | succ j ih =>
    intro i hi hj
    by_cases e : i = j + 1
    · subst e; exact ⟨Int.le_refl _, by omega⟩
    · have a := ih i (by omega) (by omega)
      have b := (h.1 j (Nat.zero_le _) (by omega)).2
      simp only [sS]; omega
theorem sF_mono {l : List S32} (h : BOK l) (j : Nat) : ∀ i : Nat, i ≤ j → j ≤ l.length → sF l i ≤ sF l j := by
  induction j with
  | zero => intro i hi _; obtain rfl : i = 0 := by omega
            exact Int.le_refl _
  | succ j ih =>
    intro i hi hj
    by_cases e : i = j + 1
    · subst e; exact Int.le_refl _
    · have a := ih i (by omega) (by omega)
      have b := (h.1 j (Nat.zero_le _) (by omega)).1
      simp only [sF]; omega
theorem mx_lt {a b : Int} (h : a < b) : mx a b = b := if_pos h
theorem mx_ge {a b : Int} (h : ¬ a < b) : mx a b = a := if_neg h
theorem mx_le {a b c : Int} : mx a b ≤ c ↔ a ≤ c ∧ b ≤ c := by unfold mx; split <;> omega
theorem le_mx {a b : Int} : a ≤ mx a b ∧ b ≤ mx a b := by unfold mx; split <;> omega
theorem mx_max (a b : Int) : mx a b = max a b := by unfold mx; split <;> omega
/-- The way by customer i. -/
def wayAt (l : List S32) (i : Nat) : Int := sF l (i + 1) + (sS l l.length - sS l i)
/-- The longest way of the first i ones. -/
def LW (l : List S32) : Nat → Int
  | 0 => 0
  | i + 1 => mx (LW l i) (wayAt l i)
theorem wayAt_in {l : List S32} (h : BOK l) (i : Nat) (hi : i < l.length) : 0 < wayAt l i ∧ wayAt l i ≤ 200 := by
  have a := sF_in h (i + 1) (by omega)
  have b := sS_mono h l.length i (by omega) (Nat.le_refl _)
  have c := sS_in h l.length (Nat.le_refl _)
  have d := h.2
  have e := sS_in h i (by omega)
  unfold wayAt; omega
theorem LW_in {l : List S32} (h : BOK l) : ∀ i : Nat, i ≤ l.length → 0 ≤ LW l i ∧ LW l i ≤ 200
  | 0, _ => by simp [LW]
  | i + 1, hi => by
    have a := LW_in h i (by omega)
    have b := wayAt_in h i (by omega)
    simp only [LW, mx]; split <;> omega
theorem LW_ge {l : List S32} : ∀ (n i : Nat), i < n → wayAt l i ≤ LW l n
  | n + 1, i, hi => by
    simp only [LW, mx]
    by_cases e : i = n
    · subst e; split <;> omega
    · have a := LW_ge (l := l) n i (by omega)
      split <;> omega
theorem LW_ex {l : List S32} (h : BOK l) : ∀ (n : Nat), 0 < n → n ≤ l.length → ∃ i, i < n ∧ LW l n = wayAt l i
  | n + 1, _, hn => by
    have p := wayAt_in h n (by omega)
    by_cases e : n = 0
    · subst e
      refine ⟨0, by omega, ?_⟩
      show mx 0 (wayAt l 0) = _
      exact mx_lt p.1
    · obtain ⟨i, h1, h2⟩ := LW_ex h n (by omega) (by omega)
      by_cases c : LW l n < wayAt l n
      · refine ⟨n, by omega, ?_⟩
        exact mx_lt c
      · refine ⟨i, by omega, ?_⟩
        exact (mx_ge c).trans h2
/-- What LongestWay answers. -/
noncomputable def LWV (l : List S32) : Int := @ite _ (BOK l) (Classical.propDecidable _) (LW l l.length) (-1)
theorem LWV_pos {l : List S32} (h : BOK l) : LWV l = LW l l.length := by unfold LWV; exact if_pos h
theorem LWV_neg {l : List S32} (h : ¬BOK l) : LWV l = -1 := by unfold LWV; exact if_neg h
theorem l1In_eq (a b c : Int) : spec_l1In.f a b c = some (dec (b ≤ a ∧ a ≤ c)) := by
  unfold spec_l1In.f
  by_cases h : a ≥ b
  · rw [if_pos h]
    by_cases h2 : a ≤ c
    · rw [decide_eq_true h2, dec_pos ⟨h, h2⟩]
    · rw [decide_eq_false h2, dec_neg (fun x => h2 x.2)]
  · rw [if_neg h, dec_neg (fun x => h x.1)]
theorem l1In_ev (a b c : Int) : Ev (fun _ => spec_l1In.f a b c) (dec (b ≤ a ∧ a ≤ c)) := Ev.congr (fun _ => l1In_eq a b c) (Ev.now _)
theorem sBothOk_l0 (l : List S32) (hl : l.length ≤ 9223372036854775806) : ∀ d i : Nat, i + d = l.length →
    Ev (fun k => spec_BothOk.l0 k l (i : Int)) (dec ((∀ j : Nat, i ≤ j → j < l.length → BIn (rd_T32 l (j : Int))) ∧ 1 ≤ (l.length : Int) ∧ (l.length : Int) ≤ 6)) := by
  intro d
  induction d with
  | zero =>
    intro i hi
    refine ev_succ ?_
    simp only [spec_BothOk.l0]
    refine ev_neg (by omega) (Ev.bind (l1In_ev _ _ _) (ev_some (dec_congr ?_)))
    obtain rfl : i = l.length := by omega
    exact ⟨fun h => ⟨from_end, h⟩, fun h => h.2⟩
  | succ d ih =>
    intro i hi
    refine ev_succ ?_
    simp only [spec_BothOk.l0]
    have hs := from_step (i := i) (n := l.length) (Q := fun j => BIn (rd_T32 l (j : Int))) (by omega)
    refine ev_pos (by omega) (ev_pos (by omega) (Ev.bind (l1In_ev _ _ _) ?_))
    by_cases h1 : 1 ≤ (rd_T32 l (i : Int)).f0 ∧ (rd_T32 l (i : Int)).f0 ≤ 9
    · refine ev_pos (dec_pos h1) (Ev.bind (l1In_ev _ _ _) ?_)
      by_cases h2 : 1 ≤ (rd_T32 l (i : Int)).f1 ∧ (rd_T32 l (i : Int)).f1 ≤ 9
      · refine ev_pos (dec_pos h2) ?_
        rw [wrap_succ (by omega)]
        refine ev_to (ih (i + 1) (by omega)) (dec_congr ?_)
        rw [hs]
        exact ⟨fun x => ⟨⟨⟨h1, h2⟩, x.1⟩, x.2⟩, fun x => ⟨x.1.2, x.2⟩⟩
      · exact ev_neg (by rw [dec_neg h2]; simp) (ev_some (dec_neg (fun x => h2 (hs.1 x.1).1.2)).symm)
    · exact ev_neg (by rw [dec_neg h1]; simp) (ev_some (dec_neg (fun x => h1 (hs.1 x.1).1.1)).symm)
theorem sBothOk_ev (l : List S32) (hl : l.length ≤ 9223372036854775806) : Ev (fun k => spec_BothOk.f k l) (dec (BOK l)) := sBothOk_l0 l hl l.length 0 (by omega)
theorem sLW_l2 {l : List S32} (h : BOK l) (a : Int) (i : Nat) (hi : i < l.length) (r : Int) (H : Ev (fun k => spec_LongestWay.l0 k l (mx a (wayAt l i)) ((i + 1 : Nat) : Int)) r) :
    ∀ (d j : Nat), j + d = l.length → i ≤ j → Ev (fun k => spec_LongestWay.l2 k l a (i : Int) (sF l (i + 1) + (sS l j - sS l i)) (j : Int)) r := by
  have hl := h.2
  intro d
  induction d with
  | zero =>
    intro j hj hij
    obtain rfl : j = l.length := by omega
    refine ev_succ ?_
    simp only [spec_LongestWay.l2]
    rw [wrap_succ (i := i) (by omega)]
    unfold wayAt at H
    exact ev_neg (by omega) H
  | succ d ih =>
    intro j hj hij
    have p := sF_in h (i + 1) (by omega)
    have b := sS_mono h (j + 1) i (by omega) (by omega)
    refine ev_succ ?_
    simp only [spec_LongestWay.l2]
    rw [wrap_succ (by omega), wrap_id (x := sF l (i + 1) + _ + _) (by simp only [sS] at b; omega) (by simp only [sS] at b; omega)]
    refine ev_pos (by omega) (ev_pos (by omega) ?_)
    have := ih (j + 1) (by omega) (by omega)
    simp only [sS] at this
    rw [show sF l (i + 1) + (sS l j - sS l i) + (rd_T32 l (j : Int)).f1 = sF l (i + 1) + (sS l j + (rd_T32 l (j : Int)).f1 - sS l i) by omega]
    exact this
theorem sLW_l1 {l : List S32} (h : BOK l) (a : Int) (i : Nat) (hi : i < l.length) (r : Int) (H : Ev (fun k => spec_LongestWay.l0 k l (mx a (wayAt l i)) ((i + 1 : Nat) : Int)) r) :
    ∀ (d j : Nat), j + d = i + 1 → Ev (fun k => spec_LongestWay.l1 k l a (i : Int) (sF l j) (j : Int)) r := by
  have hl := h.2
  intro d
  induction d with
  | zero =>
    intro j hj
    obtain rfl : j = i + 1 := by omega
    refine ev_succ ?_
    simp only [spec_LongestWay.l1]
    refine ev_neg (by omega) ?_
    have := sLW_l2 h a i hi r H (l.length - i) i (by omega) (Nat.le_refl _)
    rw [show sF l (i + 1) + (sS l i - sS l i) = sF l (i + 1) by omega] at this
    exact this
  | succ d ih =>
    intro j hj
    have p := sF_in h (j + 1) (by omega)
    refine ev_succ ?_
    simp only [spec_LongestWay.l1]
    rw [wrap_succ (by omega), wrap_id (x := sF l j + _) (by simp only [sF] at p; omega) (by simp only [sF] at p; omega)]
    exact ev_pos (by omega) (ev_pos (by omega) (ev_pos (by omega) (ih (j + 1) (by omega))))
theorem sLW_l0 {l : List S32} (h : BOK l) : ∀ (d i : Nat) (a : Int), i + d = l.length → (a = LW l i ∨ (i = 0 ∧ a = -1)) → Ev (fun k => spec_LongestWay.l0 k l a (i : Int)) (LW l l.length) := by
  have hl := h.2
  intro d
  induction d with
  | zero =>
    intro i a hi ha
    obtain rfl : i = l.length := by omega
    refine ev_succ ?_
    simp only [spec_LongestWay.l0]
    refine ev_neg (by omega) (ev_succ ?_)
    simp only [spec_LongestWay.j1]
    exact ev_neg (by simp) (ev_some (by omega))
  | succ d ih =>
    intro i a hi ha
    refine ev_succ ?_
    simp only [spec_LongestWay.l0]
    refine ev_pos (by omega) (Ev.bind (sBothOk_ev l (by omega)) (ev_succ ?_))
    simp only [spec_LongestWay.j1]
    refine ev_pos (dec_pos h) ?_
    refine sLW_l1 h a i (by omega) _ (ih (i + 1) _ (by omega) (.inl ?_)) (i + 1) 0 (by omega)
    have p := wayAt_in h i (by omega)
    rcases ha with rfl | ⟨rfl, rfl⟩
    · rfl
    · show mx (-1) (wayAt l 0) = mx 0 (wayAt l 0)
      rw [mx_lt (by omega), mx_lt p.1]
theorem sLongestWay_ev (l : List S32) (hl : l.length ≤ 9223372036854775806) : Ev (fun k => spec_LongestWay.f k l) (LWV l) := by
  unfold spec_LongestWay.f
  by_cases h : BOK l
  · rw [LWV_pos h]
    exact sLW_l0 h l.length 0 (-1) (by omega) (.inr ⟨rfl, rfl⟩)
  · rw [LWV_neg h]
    refine ev_succ ?_
    simp only [spec_LongestWay.l0]
    by_cases h0 : 0 < (l.length : Int)
    · refine ev_pos h0 (Ev.bind (sBothOk_ev l hl) (ev_succ ?_))
      simp only [spec_LongestWay.j1]
      exact ev_neg (by rw [dec_neg h]; simp) (Ev.now _)
    · refine ev_neg h0 (ev_succ ?_)
      simp only [spec_LongestWay.j1]
      exact ev_neg (by simp) (Ev.now _)
theorem iBothOk_l0 (l : List S32) (hl : l.length ≤ 9223372036854775806) : ∀ d i : Nat, i + d = l.length →
    Ev (fun k => impl_BothOk.l0 k l l (l.length : Int) (i : Int)) (dec ((∀ j : Nat, i ≤ j → j < l.length → BIn (rd_T32 l (j : Int))) ∧ 1 ≤ (l.length : Int) ∧ (l.length : Int) ≤ 6)) := by
  intro d
  induction d with
  | zero =>
    intro i hi
    refine ev_succ ?_
    simp only [impl_BothOk.l0]
    refine ev_neg (by omega) ?_
    obtain rfl : i = l.length := by omega
    by_cases h : (l.length : Int) ≥ 1
    · refine ev_pos h (ev_some ?_)
      rw [dec_of]
      exact dec_congr ⟨fun e => ⟨from_end, h, e⟩, fun e => e.2.2⟩
    · exact ev_neg h (ev_some (dec_neg (fun e => h e.2.1)).symm)
  | succ d ih =>
    intro i hi
    refine ev_succ ?_
    simp only [impl_BothOk.l0]
    have hs := from_step (i := i) (n := l.length) (Q := fun j => BIn (rd_T32 l (j : Int))) (by omega)
    refine ev_pos (by omega) (ev_pos (by omega) (ev_pos (by omega) ?_))
    by_cases h1 : (rd_T32 l (i : Int)).f0 < 1
    · exact ev_pos h1 (ev_some (dec_neg (fun x => by have := (hs.1 x.1).1.1.1; omega)).symm)
    refine ev_neg h1 ?_
    by_cases h2 : (rd_T32 l (i : Int)).f0 > 9
    · exact ev_pos h2 (ev_some (dec_neg (fun x => by have := (hs.1 x.1).1.1.2; omega)).symm)
    refine ev_neg h2 ?_
    by_cases h3 : (rd_T32 l (i : Int)).f1 < 1
    · exact ev_pos h3 (ev_some (dec_neg (fun x => by have := (hs.1 x.1).1.2.1; omega)).symm)
    refine ev_neg h3 ?_
    by_cases h4 : (rd_T32 l (i : Int)).f1 > 9
    · exact ev_pos h4 (ev_some (dec_neg (fun x => by have := (hs.1 x.1).1.2.2; omega)).symm)
    refine ev_neg h4 ?_
    rw [wrap_succ (by omega)]
    refine ev_to (ih (i + 1) (by omega)) (dec_congr ?_)
    rw [hs]
    exact ⟨fun x => ⟨⟨⟨⟨by omega, by omega⟩, by omega, by omega⟩, x.1⟩, x.2⟩, fun x => ⟨x.1.2, x.2⟩⟩
theorem iBothOk_ev (l : List S32) (hl : l.length ≤ 9223372036854775806) : Ev (fun k => impl_BothOk.f k l) (dec (BOK l)) := iBothOk_l0 l hl l.length 0 (by omega)
theorem iLW_l1 {l : List S32} (h : BOK l) (a : Int) (i : Nat) (hi : i < l.length) (r : Int) (H : Ev (fun k => impl_longestWay.l0 k l (mx a (wayAt l i)) (sF l (i + 1)) l (l.length : Int) ((i + 1 : Nat) : Int)) r) :
    ∀ (d j : Nat), i + j + d = l.length → Ev (fun k => impl_longestWay.l1 k l a (sF l (i + 1)) (sF l (i + 1) + (sS l (i + j) - sS l i)) l (l.length : Int) (i : Int) (l.drop i) ((l.drop i).length : Int) (j : Int)) r := by
  have hl := h.2
  have hd : (l.drop i).length = l.length - i := List.length_drop
  intro d
  induction d with
  | zero =>
    intro j hj
    refine ev_succ ?_
    simp only [impl_longestWay.l1]
    rw [wrap_succ (i := i) (by omega)]
    refine ev_neg (by omega) ?_
    have e : i + j = l.length := by omega
    rw [e]
    unfold wayAt at H
    exact H
  | succ d ih =>
    intro j hj
    have p := sF_in h (i + 1) (by omega)
    have b := sS_mono h (i + j + 1) i (by omega) (by omega)
    have e : (rd_T32 (l.drop i) (j : Int)) = rd_T32 l ((i + j : Nat) : Int) := sBoth_drop l i j
    refine ev_succ ?_
    simp only [impl_longestWay.l1]
    rw [wrap_succ (by omega), e, wrap_id (x := sF l (i + 1) + _ + _) (by simp only [sS] at b; omega) (by simp only [sS] at b; omega)]
    refine ev_pos (by omega) (ev_pos (by omega) (ev_pos (by omega) ?_))
    have := ih (j + 1) (by omega)
    rw [show i + (j + 1) = i + j + 1 by omega] at this
    simp only [sS] at this
    rw [show sF l (i + 1) + (sS l (i + j) - sS l i) + (rd_T32 l ((i + j : Nat) : Int)).f1 = sF l (i + 1) + (sS l (i + j) + (rd_T32 l ((i + j : Nat) : Int)).f1 - sS l i) by omega]
    exact this
theorem iLW_l0 {l : List S32} (h : BOK l) : ∀ (d i : Nat), i + d = l.length → Ev (fun k => impl_longestWay.l0 k l (LW l i) (sF l i) l (l.length : Int) (i : Int)) (LW l l.length) := by
  have hl := h.2
  intro d
  induction d with
  | zero =>
    intro i hi
    obtain rfl : i = l.length := by omega
    refine ev_succ ?_
    simp only [impl_longestWay.l0]
    exact ev_neg (by omega) (Ev.now _)
  | succ d ih =>
    intro i hi
    have p := sF_in h (i + 1) (by omega)
    refine ev_succ ?_
    simp only [impl_longestWay.l0]
    rw [wrap_id (x := sF l i + _) (by simp only [sF] at p; omega) (by simp only [sF] at p; omega)]
    refine ev_pos (by omega) (ev_pos (by omega) (ev_pos (by omega) (ev_pos (by omega) (Ev.bind (Ev.now _) ?_))))
    have := iLW_l1 h (LW l i) i (by omega) _ (ih (i + 1) (by omega)) (l.length - i) 0 (by omega)
    rw [show sF l (i + 1) + (sS l (i + 0) - sS l i) = sF l (i + 1) by simp only [Nat.add_zero]; omega] at this
    exact this
theorem ilongestWay_ev {l : List S32} (h : BOK l) : Ev (fun k => impl_longestWay.f k l) (LW l l.length) := iLW_l0 h l.length 0 (by omega)
theorem iLongestWay_ev (l : List S32) (hl : l.length ≤ 9223372036854775806) : Ev (fun k => impl_LongestWay.f k l) (LWV l) := by
  unfold impl_LongestWay.f
  refine Ev.bind (iBothOk_ev l hl) ?_
  by_cases h : BOK l
  · exact ev_pos (dec_pos h) (Ev.bind (ilongestWay_ev h) (ev_some (LWV_pos h).symm))
  · exact ev_neg (by rw [dec_neg h]; simp) (ev_some (LWV_neg h).symm)
def cvBoth (x : S57) : S32 := ⟨x.f0, x.f1⟩
theorem toBothS_l0 (l : List S57) (hl : l.length ≤ 1048576) : ∀ (d i : Nat) (o : List S32), i + d = l.length → o.length = l.length → (∀ j : Nat, j < i → rd_T32 o (j : Int) = cvBoth (rd_T57 l (j : Int))) →
    Ev (fun k => laws_toBothS.l0 k l o (i : Int)) (l.map cvBoth) := by
  intro d
  induction d with
  | zero =>
    intro i o hi ho hr
    refine ev_succ ?_
    simp only [laws_toBothS.l0]
    refine ev_neg (by omega) (ev_some ?_)
    refine sBoth_ext (by rw [List.length_map]; exact ho) (fun j hj => ?_)
    rw [hr j (by omega), sBoth_nat, List.getD_eq_getElem?_getD, List.getElem?_map, List.getElem?_eq_getElem (by omega)]
    show cvBoth (l.getD j _) = cvBoth _
    rw [List.getD_eq_getElem?_getD, List.getElem?_eq_getElem (by omega)]; rfl
  | succ d ih =>
    intro i o hi ho hr
    refine ev_succ ?_
    simp only [laws_toBothS.l0, laws_toBoth.f, Option.bind_some]
    refine ev_pos (by omega) (ev_pos (by omega) (ev_pos (by omega) ?_))
    rw [wrap_succ (by omega)]
    refine ih (i + 1) _ (by omega) (by rw [List.length_set]; exact ho) ?_
    intro j hj
    rw [show ((i : Int).toNat) = i from rfl, sBoth_set o i j _ (by omega)]
    by_cases e : j = i
    · rw [if_pos e, e]; rfl
    · rw [if_neg e]; exact hr j (by omega)
theorem toBothS_ev (l : List S57) (hl : l.length ≤ 1048576) : Ev (fun k => laws_toBothS.f k l) (l.map cvBoth) := by
  unfold laws_toBothS.f
  refine ev_pos (by omega) (ev_pos (by omega) ?_)
  refine toBothS_l0 l hl l.length 0 _ (by omega) (by simp) (fun j hj => by omega)
theorem szBothS_eq (l : List S57) (hl : l.length ≤ 1048576) : laws_szBothS.f l 1048576 = some (1048576 - (l.length : Int)) := by
  unfold laws_szBothS.f
  rw [wrap_id (by omega) (by omega), if_neg (by omega)]
theorem szBothS_big (l : List S57) (h0 : l.length ≤ 9223372036854775807) (hl : ¬ l.length ≤ 1048576) : laws_szBothS.f l 1048576 = some (-1) := by
  unfold laws_szBothS.f
  rw [wrap_id (by omega) (by omega), if_pos (by omega)]
theorem eqBothS_l0 (a b : List S32) (hl : a.length ≤ 9223372036854775806) (hb : a.length = b.length) : ∀ (d i : Nat), i + d = a.length → (∀ j : Nat, j < i → rd_T32 a (j : Int) = rd_T32 b (j : Int)) →
    Ev (fun k => laws_eqBothS.l0 k a b (i : Int)) (dec (a = b)) := by
  intro d
  induction d with
  | zero =>
    intro i hi hr
    refine ev_succ ?_
    simp only [laws_eqBothS.l0]
    refine ev_neg (by omega) (ev_some ?_)
    exact (dec_pos (sBoth_ext hb (fun j hj => hr j (by omega)))).symm
  | succ d ih =>
    intro i hi hr
    refine ev_succ ?_
    simp only [laws_eqBothS.l0, laws_eqBoth.f]
    refine ev_pos (by omega) (ev_pos (by omega) (ev_pos (by omega) ?_))
    by_cases h : (rd_T32 a (i : Int)).f0 = (rd_T32 b (i : Int)).f0
    · by_cases h2 : (rd_T32 a (i : Int)).f1 = (rd_T32 b (i : Int)).f1
      · rw [if_pos h, if_pos h2]
        simp only [Option.bind_some]
        refine ev_pos (by simp) ?_
        rw [wrap_succ (by omega)]
        refine ih (i + 1) (by omega) ?_
        intro j hj
        by_cases e : j = i
        · rw [e]
          cases ha : rd_T32 a (i : Int); cases hb' : rd_T32 b (i : Int)
          rw [ha, hb'] at h h2
          simp only at h h2
          rw [h, h2]
        · exact hr j (by omega)
      · rw [if_pos h, if_neg h2]
        simp only [Option.bind_some]
        refine ev_neg (by simp) (ev_some (dec_neg ?_).symm)
        intro e; exact h2 (by rw [e])
    · rw [if_neg h]
      simp only [Option.bind_some]
      refine ev_neg (by simp) (ev_some (dec_neg ?_).symm)
      intro e; exact h (by rw [e])
theorem eqBothS_ev (a b : List S32) (hl : a.length ≤ 9223372036854775806) : Ev (fun k => laws_eqBothS.f k a b) (dec (a = b)) := by
  unfold laws_eqBothS.f
  by_cases h : a.length = b.length
  · refine ev_pos (by omega) ?_
    exact eqBothS_l0 a b hl h a.length 0 (by omega) (fun j hj => by omega)
  · refine ev_neg (by omega) (ev_some (dec_neg ?_).symm)
    intro e; exact h (by rw [e])
theorem FnExactLongestWay (l0 : List S57) (h0 : l0.length ≤ 9223372036854775807) : ∃ k, laws_FnExactLongestWay.f k l0 = some true := by
  refine Ev.rounds ?_
  unfold laws_FnExactLongestWay.f
  by_cases h : l0.length ≤ 1048576
  · have e : (l0.map cvBoth).length ≤ 9223372036854775806 := by rw [List.length_map]; omega
    rw [szBothS_eq l0 h]
    refine Ev.bind (Ev.now _) (ev_neg (by omega) (Ev.bind (toBothS_ev l0 h) (Ev.bind (sLongestWay_ev _ e) (Ev.bind (toBothS_ev l0 h) (Ev.bind (iLongestWay_ev _ e) ?_)))))
    refine ev_pos rfl (Ev.bind (toBothS_ev l0 h) (Ev.bind (eqBothS_ev _ _ e) ?_))
    exact ev_pos (dec_pos rfl) (Ev.now _)
  · rw [szBothS_big l0 h0 h]
    exact Ev.bind (Ev.now _) (ev_pos (by omega) (Ev.now _))
end Go.Proofs.Ytbmhkhdmedemaaa.Pure
