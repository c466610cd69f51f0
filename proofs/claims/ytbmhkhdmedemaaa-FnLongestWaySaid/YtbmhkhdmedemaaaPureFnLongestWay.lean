/- The law FnLongestWay holds for every input; nothing is assumed. -/
import Derived.Test.YtbmhkhdmedemaaaPFnLongestWayx4
namespace Go.Proofs.Ytbmhkhdmedemaaa.Pure
open Go.RowKit Go.Proofs.Ytbmhkhdmedemaaa.PFnLongestWay Go.Proofs.YtbmhkhdmedemaaaW.PrintWords Go.Proofs.YtbmhkhdmedemaaaW.PrintLast Go.Proofs.YtbmhkhdmedemaaaW.PrintMore
set_option linter.unusedVariables false
set_option linter.unusedSimpArgs false
theorem ev_succ {α : Type} {g : Nat → Option α} {r : α} (h : Ev (fun k => g (k + 1)) r) : Ev g r := Ev.step (fun _ => rfl) h
theorem ev_pos {α : Type} {c : Prop} [Decidable c] {f g : Nat → Option α} {r : α} (h : c) (k : Ev f r) : Ev (fun n => if c then f n else g n) r := Ev.congr (fun _ => if_pos h) k
theorem ev_neg {α : Type} {c : Prop} [Decidable c] {f g : Nat → Option α} {r : α} (h : ¬c) (k : Ev g r) : Ev (fun n => if c then f n else g n) r := Ev.congr (fun _ => if_neg h) k
theorem ev_some {α : Type} {x r : α} (h : x = r) : Ev (fun _ => some x) r := h ▸ Ev.now x
theorem ev_to {α : Type} {g : Nat → Option α} {a r : α} (h : Ev g a) (e : a = r) : Ev g r := e ▸ h
/-- Whether P. -/
noncomputable def dec (P : Prop) : Bool := @decide P (Classical.propDecidable P)
theorem dec_iff {P : Prop} : dec P = true ↔ P := @decide_eq_true_iff P (Classical.propDecidable P)
theorem dec_pos {P : Prop} (h : P) : dec P = true := dec_iff.2 h
theorem dec_neg {P : Prop} (h : ¬P) : dec P = false := by
  cases e : dec P
  · rfl
  · exact absurd (dec_iff.1 e) h
theorem dec_congr {P Q : Prop} (h : P ↔ Q) : dec P = dec Q := by rw [propext h]
theorem dec_of {P : Prop} [Decidable P] : decide P = dec P := by
  by_cases h : P
  · rw [dec_pos h, decide_eq_true h]
  · rw [dec_neg h, decide_eq_false h]
theorem dec_bool {b : Bool} : b = dec (b = true) := by
  cases b
  · exact (dec_neg (by simp)).symm
  · exact (dec_pos rfl).symm
/-- From i on: at i, and from i + 1 on. -/
theorem from_step {i n : Nat} {Q : Nat → Prop} (h : i < n) : (∀ j, i ≤ j → j < n → Q j) ↔ Q i ∧ ∀ j, i + 1 ≤ j → j < n → Q j := by
  constructor
  · exact fun a => ⟨a i (Nat.le_refl _) h, fun j h1 h2 => a j (by omega) h2⟩
  · intro a j h1 h2
    by_cases e : j = i
    · exact e ▸ a.1
    · exact a.2 j (by omega) h2
theorem from_end {n : Nat} {Q : Nat → Prop} : ∀ j, n ≤ j → j < n → Q j := fun j h1 h2 => by omega
theorem wrap_id {x : Int} (h0 : -9223372036854775808 ≤ x) (h1 : x ≤ 9223372036854775807) : wrap64 x = x := by unfold wrap64; omega
theorem wrap_succ {i : Nat} (h : i ≤ 9223372036854775806) : wrap64 ((i : Int) + 1) = ((i + 1 : Nat) : Int) := by unfold wrap64; omega
theorem wrap_pred {i : Nat} (h : i ≤ 9223372036854775806) : wrap64 ((i : Int) - 1) = (i : Int) - 1 := by unfold wrap64; omega
/-- The bounds of a number of the kind int. -/
def I64 (x : Int) : Prop := -9223372036854775808 ≤ x ∧ x ≤ 9223372036854775807
theorem i64_wf {x : Int} (h : (Lit.int .i64 x).wf = true) : I64 x := by
  have h' : (decide (IntKind.i64.min ≤ x) && decide (x ≤ IntKind.i64.max)) = true := h
  have a : IntKind.i64.min = -9223372036854775808 := by decide
  have b : IntKind.i64.max = 9223372036854775807 := by decide
  rw [a, b] at h'
  simpa [I64] using h'
theorem sBoth_nat (l : List S32) (i : Nat) : rd_T32 l (i : Int) = l.getD i z32 := rfl
theorem sBoth_get {l : List S32} {i : Nat} (h : i < l.length) : rd_T32 l (i : Int) = l[i] := by
  rw [sBoth_nat, List.getD_eq_getElem?_getD, List.getElem?_eq_getElem h]; rfl
theorem sBoth_set (l : List S32) (i j : Nat) (v : S32) (h : i < l.length) : rd_T32 (l.set i v) (j : Int) = if j = i then v else rd_T32 l (j : Int) := by
  rw [sBoth_nat, sBoth_nat, List.getD_eq_getElem?_getD, List.getElem?_set]
  by_cases e : i = j
  · subst e; rw [if_pos rfl, if_pos h, if_pos rfl]; rfl
  · rw [if_neg e, if_neg (fun x => e x.symm), ← List.getD_eq_getElem?_getD]
theorem sBoth_app (l : List S32) (v : S32) (j : Nat) : rd_T32 (l ++ [v]) (j : Int) = if j < l.length then rd_T32 l (j : Int) else if j = l.length then v else z32 := by
  rw [sBoth_nat, sBoth_nat, List.getD_eq_getElem?_getD, List.getD_eq_getElem?_getD, List.getElem?_append]
  by_cases h : j < l.length
  · rw [if_pos h, if_pos h]
  · rw [if_neg h, if_neg h]
    by_cases e : j = l.length
    · subst e; rw [if_pos rfl]; simp
    · rw [if_neg e, List.getElem?_eq_none (by simp; omega)]; rfl
theorem sBoth_take (l : List S32) (n j : Nat) (h : j < n) : rd_T32 (l.take n) (j : Int) = rd_T32 l (j : Int) := by
  rw [sBoth_nat, sBoth_nat, List.getD_eq_getElem?_getD, List.getElem?_take, if_pos h, ← List.getD_eq_getElem?_getD]
theorem sBoth_drop (l : List S32) (n j : Nat) : rd_T32 (l.drop n) (j : Int) = rd_T32 l ((n + j : Nat) : Int) := by
  rw [sBoth_nat, sBoth_nat, List.getD_eq_getElem?_getD, List.getElem?_drop, ← List.getD_eq_getElem?_getD]
theorem sBoth_ext {a b : List S32} (hl : a.length = b.length) (h : ∀ j : Nat, j < a.length → rd_T32 a (j : Int) = rd_T32 b (j : Int)) : a = b := by
  refine List.ext_getElem hl fun j h1 h2 => ?_
  have := h j h1
  rw [sBoth_get h1, sBoth_get h2] at this
  exact this
def BIn (x : S32) : Prop := (1 ≤ x.f0 ∧ x.f0 ≤ 9) ∧ 1 ≤ x.f1 ∧ x.f1 ≤ 9
/-- Customers of two counters. -/
def BOK (l : List S32) : Prop := (∀ j : Nat, 0 ≤ j → j < l.length → BIn (rd_T32 l (j : Int))) ∧ 1 ≤ (l.length : Int) ∧ (l.length : Int) ≤ 6
/-- What the first i need at the first counter; at the second one. -/
def sF (l : List S32) : Nat → Int
  | 0 => 0
  | i + 1 => sF l i + (rd_T32 l (i : Int)).f0
def sS (l : List S32) : Nat → Int
  | 0 => 0
  | i + 1 => sS l i + (rd_T32 l (i : Int)).f1
theorem sF_in {l : List S32} (h : BOK l) : ∀ i : Nat, i ≤ l.length → (i : Int) ≤ sF l i ∧ sF l i ≤ 9 * (i : Int)
  | 0, _ => by simp [sF]
  | i + 1, hi => by
    have a := sF_in h i (by omega)
    have b := (h.1 i (Nat.zero_le _) (by omega)).1
    simp only [sF]; omega
theorem sS_in {l : List S32} (h : BOK l) : ∀ i : Nat, i ≤ l.length → (i : Int) ≤ sS l i ∧ sS l i ≤ 9 * (i : Int)
  | 0, _ => by simp [sS]
  | i + 1, hi => by
    have a := sS_in h i (by omega)
    have b := (h.1 i (Nat.zero_le _) (by omega)).2
    simp only [sS]; omega
theorem sS_mono {l : List S32} (h : BOK l) (j : Nat) : ∀ i : Nat, i ≤ j → j ≤ l.length → sS l i ≤ sS l j ∧ sS l j - sS l i ≤ 9 * ((j : Int) - i) := by
  induction j with
  | zero => intro i hi _; obtain rfl : i = 0 := by omega
            exact ⟨Int.le_refl _, by omega⟩
  | succ j ih =>
    intro i hi hj
    by_cases e : i = j + 1
    · subst e; exact ⟨Int.le_refl _, by omega⟩
    · have a := ih i (by omega) (by omega)
      have b := (h.1 j (Nat.zero_le _) (by omega)).2
      simp only [sS]; omega
theorem sF_mono {l : List S32} (h : BOK l) (j : Nat) : ∀ i : Nat, i ≤ j → j ≤ l.length → sF l i ≤ sF l j := by
  induction j with
  | zero => intro i hi _; obtain rfl : i = 0 := by omega
            exact Int.le_refl _
  | succ j ih =>
    intro i hi hj
    by_cases e : i = j + 1
    · subst e; exact Int.le_refl _
    · have a := ih i (by omega) (by omega)
      have b := (h.1 j (Nat.zero_le _) (by omega)).1
      simp only [sF]; omega
theorem mx_lt {a b : Int} (h : a < b) : mx a b = b := if_pos h
theorem mx_ge {a b : Int} (h : ¬ a < b) : mx a b = a := if_neg h
theorem mx_le {a b c : Int} : mx a b ≤ c ↔ a ≤ c ∧ b ≤ c := by unfold mx; split <;> omega
theorem le_mx {a b : Int} : a ≤ mx a b ∧ b ≤ mx a b := by unfold mx; split <;> omega
theorem mx_max (a b : Int) : mx a b = max a b := by unfold mx; split <;> omega
/-- The way by customer i. -/
def wayAt (l : List S32) (i : Nat) : Int := sF l (i + 1) + (sS l l.length - sS l i)
/-- The longest way of the first i ones. -/
def LW (l : List S32) : Nat → Int
  | 0 => 0
  | i + 1 => mx (LW l i) (wayAt l i)
theorem wayAt_in {l : List S32} (h : BOK l) (i : Nat) (hi : i < l.length) : 0 < wayAt l i ∧ wayAt l i ≤ 200 := by
  have a := sF_in h (i + 1) (by omega)
  have b := sS_mono h l.length i (by omega) (Nat.le_refl _)
  have c := sS_in h l.length (Nat.le_refl _)
  have d := h.2
  have e := sS_in h i (by omega)
  unfold wayAt; omega
theorem LW_in {l : List S32} (h : BOK l) : ∀ i : Nat, i ≤ l.length → 0 ≤ LW l i ∧ LW l i ≤ 200
  | 0, _ => by simp [LW]
  | i + 1, hi => by
    have a := LW_in h i (by omega)
    have b := wayAt_in h i (by omega)
    simp only [LW, mx]; split <;> omega
theorem LW_ge {l : List S32} : ∀ (n i : Nat), i < n → wayAt l i ≤ LW l n
  | n + 1, i, hi => by
    simp only [LW, mx]
    by_cases e : i = n
    · subst e; split <;> omega
    · have a := LW_ge (l := l) n i (by omega)
      split <;> omega
theorem LW_ex {l : List S32} (h : BOK l) : ∀ (n : Nat), 0 < n → n ≤ l.length → ∃ i, i < n ∧ LW l n = wayAt l i
  | n + 1, _, hn => by
    have p := wayAt_in h n (by omega)
    by_cases e : n = 0
    · subst e
      refine ⟨0, by omega, ?_⟩
      show mx 0 (wayAt l 0) = _
      exact mx_lt p.1
    · obtain ⟨i, h1, h2⟩ := LW_ex h n (by omega) (by omega)
      by_cases c : LW l n < wayAt l n
      · refine ⟨n, by omega, ?_⟩
        exact mx_lt c
      · refine ⟨i, by omega, ?_⟩
        exact (mx_ge c).trans h2
/-- What LongestWay answers. -/
noncomputable def LWV (l : List S32) : Int := @ite _ (BOK l) (Classical.propDecidable _) (LW l l.length) (-1)
theorem LWV_pos {l : List S32} (h : BOK l) : LWV l = LW l l.length := by unfold LWV; exact if_pos h
theorem LWV_neg {l : List S32} (h : ¬BOK l) : LWV l = -1 := by unfold LWV; exact if_neg h
theorem l1In_eq (a b c : Int) : spec_l1In.f a b c = some (dec (b ≤ a ∧ a ≤ c)) := by
  unfold spec_l1In.f
  by_cases h : a ≥ b
  · rw [if_pos h]
    by_cases h2 : a ≤ c
    · rw [decide_eq_true h2, dec_pos ⟨h, h2⟩]
    · rw [decide_eq_false h2, dec_neg (fun x => h2 x.2)]
  · rw [if_neg h, dec_neg (fun x => h x.1)]
theorem l1In_ev (a b c : Int) : Ev (fun _ => spec_l1In.f a b c) (dec (b ≤ a ∧ a ≤ c)) := Ev.congr (fun _ => l1In_eq a b c) (Ev.now _)
theorem sBothOk_l0 (l : List S32) (hl : l.length ≤ 9223372036854775806) : ∀ d i : Nat, i + d = l.length →
    Ev (fun k => spec_BothOk.l0 k l (i : Int)) (dec ((∀ j : Nat, i ≤ j → j < l.length → BIn (rd_T32 l (j : Int))) ∧ 1 ≤ (l.length : Int) ∧ (l.length : Int) ≤ 6)) := by
  intro d
  induction d with
  | zero =>
    intro i hi
    refine ev_succ ?_
    simp only [spec_BothOk.l0]
    refine ev_neg (by omega) (Ev.bind (l1In_ev _ _ _) (ev_some (dec_congr ?_)))
    obtain rfl : i = l.length := by omega
    exact ⟨fun h => ⟨from_end, h⟩, fun h => h.2⟩
  | succ d ih =>
    intro i hi
    refine ev_succ ?_
    simp only [spec_BothOk.l0]
    have hs := from_step (i := i) (n := l.length) (Q := fun j => BIn (rd_T32 l (j : Int))) (by omega)
    refine ev_pos (by omega) (ev_pos (by omega) (Ev.bind (l1In_ev _ _ _) ?_))
    by_cases h1 : 1 ≤ (rd_T32 l (i : Int)).f0 ∧ (rd_T32 l (i : Int)).f0 ≤ 9
    · refine ev_pos (dec_pos h1) (Ev.bind (l1In_ev _ _ _) ?_)
      by_cases h2 : 1 ≤ (rd_T32 l (i : Int)).f1 ∧ (rd_T32 l (i : Int)).f1 ≤ 9
      · refine ev_pos (dec_pos h2) ?_
        rw [wrap_succ (by omega)]
        refine ev_to (ih (i + 1) (by omega)) (dec_congr ?_)
        rw [hs]
        exact ⟨fun x => ⟨⟨⟨h1, h2⟩, x.1⟩, x.2⟩, fun x => ⟨x.1.2, x.2⟩⟩
      · exact ev_neg (by rw [dec_neg h2]; simp) (ev_some (dec_neg (fun x => h2 (hs.1 x.1).1.2)).symm)
    · exact ev_neg (by rw [dec_neg h1]; simp) (ev_some (dec_neg (fun x => h1 (hs.1 x.1).1.1)).symm)
theorem sBothOk_ev (l : List S32) (hl : l.length ≤ 9223372036854775806) : Ev (fun k => spec_BothOk.f k l) (dec (BOK l)) := sBothOk_l0 l hl l.length 0 (by omega)
theorem sLW_l2 {l : List S32} (h : BOK l) (a : Int) (i : Nat) (hi : i < l.length) (r : Int) (H : Ev (fun k => spec_LongestWay.l0 k l (mx a (wayAt l i)) ((i + 1 : Nat) : Int)) r) :
    ∀ (d j : Nat), j + d = l.length → i ≤ j → Ev (fun k => spec_LongestWay.l2 k l a (i : Int) (sF l (i + 1) + (sS l j - sS l i)) (j : Int)) r := by
  have hl := h.2
  intro d
  induction d with
  | zero =>
    intro j hj hij
    obtain rfl : j = l.length := by omega
    refine ev_succ ?_
    simp only [spec_LongestWay.l2]
    rw [wrap_succ (i := i) (by omega)]
    unfold wayAt at H
    exact ev_neg (by omega) H
  | succ d ih =>
    intro j hj hij
    have p := sF_in h (i + 1) (by omega)
    have b := sS_mono h (j + 1) i (by omega) (by omega)
    refine ev_succ ?_
    simp only [spec_LongestWay.l2]
    rw [wrap_succ (by omega), wrap_id (x := sF l (i + 1) + _ + _) (by simp only [sS] at b; omega) (by simp only [sS] at b; omega)]
    refine ev_pos (by omega) (ev_pos (by omega) ?_)
    have := ih (j + 1) (by omega) (by omega)
    simp only [sS] at this
    rw [show sF l (i + 1) + (sS l j - sS l i) + (rd_T32 l (j : Int)).f1 = sF l (i + 1) + (sS l j + (rd_T32 l (j : Int)).f1 - sS l i) by omega]
    exact this
theorem sLW_l1 {l : List S32} (h : BOK l) (a : Int) (i : Nat) (hi : i < l.length) (r : Int) (H : Ev (fun k => spec_LongestWay.l0 k l (mx a (wayAt l i)) ((i + 1 : Nat) : Int)) r) :
    ∀ (d j : Nat), j + d = i + 1 → Ev (fun k => spec_LongestWay.l1 k l a (i : Int) (sF l j) (j : Int)) r := by
  have hl := h.2
  intro d
  induction d with
  | zero =>
    intro j hj
    obtain rfl : j = i + 1 := by omega
    refine ev_succ ?_
    simp only [spec_LongestWay.l1]
    refine ev_neg (by omega) ?_
    have := sLW_l2 h a i hi r H (l.length - i) i (by omega) (Nat.le_refl _)
    rw [show sF l (i + 1) + (sS l i - sS l i) = sF l (i + 1) by omega] at this
    exact this
  | succ d ih =>
    intro j hj
    have p := sF_in h (j + 1) (by omega)
    refine ev_succ ?_
    simp only [spec_LongestWay.l1]
    rw [wrap_succ (by omega), wrap_id (x := sF l j + _) (by simp only [sF] at p; omega) (by simp only [sF] at p; omega)]
    exact ev_pos (by omega) (ev_pos (by omega) (ev_pos (by omega) (ih (j + 1) (by omega))))
theorem sLW_l0 {l : List S32} (h : BOK l) : ∀ (d i : Nat) (a : Int), i + d = l.length → (a = LW l i ∨ (i = 0 ∧ a = -1)) → Ev (fun k => spec_LongestWay.l0 k l a (i : Int)) (LW l l.length) := by
  have hl := h.2
  intro d
  induction d with
  | zero =>
    intro i a hi ha
    obtain rfl : i = l.length := by omega
    refine ev_succ ?_
    simp only [spec_LongestWay.l0]
    refine ev_neg (by omega) (ev_succ ?_)
    simp only [spec_LongestWay.j1]
    exact ev_neg (by simp) (ev_some (by omega))
  | succ d ih =>
    intro i a hi ha
    refine ev_succ ?_
    simp only [spec_LongestWay.l0]
    refine ev_pos (by omega) (Ev.bind (sBothOk_ev l (by omega)) (ev_succ ?_))
    simp only [spec_LongestWay.j1]
    refine ev_pos (dec_pos h) ?_
    refine sLW_l1 h a i (by omega) _ (ih (i + 1) _ (by omega) (.inl ?_)) (i + 1) 0 (by omega)
    have p := wayAt_in h i (by omega)
    rcases ha with rfl | ⟨rfl, rfl⟩
    · rfl
    · show mx (-1) (wayAt l 0) = mx 0 (wayAt l 0)
      rw [mx_lt (by omega), mx_lt p.1]
theorem sLongestWay_ev (l : List S32) (hl : l.length ≤ 9223372036854775806) : Ev (fun k => spec_LongestWay.f k l) (LWV l) := by
  unfold spec_LongestWay.f
  by_cases h : BOK l
  · rw [LWV_pos h]
    exact sLW_l0 h l.length 0 (-1) (by omega) (.inr ⟨rfl, rfl⟩)
  · rw [LWV_neg h]
    refine ev_succ ?_
    simp only [spec_LongestWay.l0]
    by_cases h0 : 0 < (l.length : Int)
    · refine ev_pos h0 (Ev.bind (sBothOk_ev l hl) (ev_succ ?_))
      simp only [spec_LongestWay.j1]
      exact ev_neg (by rw [dec_neg h]; simp) (Ev.now _)
    · refine ev_neg h0 (ev_succ ?_)
      simp only [spec_LongestWay.j1]
      exact ev_neg (by simp) (Ev.now _)
theorem iBothOk_l0 (l : List S32) (hl : l.length ≤ 9223372036854775806) : ∀ d i : Nat, i + d = l.length →
    Ev (fun k => impl_BothOk.l0 k l l (l.length : Int) (i : Int)) (dec ((∀ j : Nat, i ≤ j → j < l.length → BIn (rd_T32 l (j : Int))) ∧ 1 ≤ (l.length : Int) ∧ (l.length : Int) ≤ 6)) := by
  intro d
  induction d with
  | zero =>
    intro i hi
    refine ev_succ ?_
    simp only [impl_BothOk.l0]
    refine ev_neg (by omega) ?_
    obtain rfl : i = l.length := by omega
    by_cases h : (l.length : Int) ≥ 1
    · refine ev_pos h (ev_some ?_)
      rw [dec_of]
      exact dec_congr ⟨fun e => ⟨from_end, h, e⟩, fun e => e.2.2⟩
    · exact ev_neg h (ev_some (dec_neg (fun e => h e.2.1)).symm)
  | succ d ih =>
    intro i hi
    refine ev_succ ?_
    simp only [impl_BothOk.l0]
    have hs := from_step (i := i) (n := l.length) (Q := fun j => BIn (rd_T32 l (j : Int))) (by omega)
    refine ev_pos (by omega) (ev_pos (by omega) (ev_pos (by omega) ?_))
    by_cases h1 : (rd_T32 l (i : Int)).f0 < 1
    · exact ev_pos h1 (ev_some (dec_neg (fun x => by have := (hs.1 x.1).1.1.1; omega)).symm)
    refine ev_neg h1 ?_
    by_cases h2 : (rd_T32 l (i : Int)).f0 > 9
    · exact ev_pos h2 (ev_some (dec_neg (fun x => by have := (hs.1 x.1).1.1.2; omega)).symm)
    refine ev_neg h2 ?_
    by_cases h3 : (rd_T32 l (i : Int)).f1 < 1
    · exact ev_pos h3 (ev_some (dec_neg (fun x => by have := (hs.1 x.1).1.2.1; omega)).symm)
    refine ev_neg h3 ?_
    by_cases h4 : (rd_T32 l (i : Int)).f1 > 9
    · exact ev_pos h4 (ev_some (dec_neg (fun x => by have := (hs.1 x.1).1.2.2; omega)).symm)
    refine ev_neg h4 ?_
    rw [wrap_succ (by omega)]
    refine ev_to (ih (i + 1) (by omega)) (dec_congr ?_)
    rw [hs]
    exact ⟨fun x => ⟨⟨⟨⟨by omega, by omega⟩, by omega, by omega⟩, x.1⟩, x.2⟩, fun x => ⟨x.1.2, x.2⟩⟩
theorem iBothOk_ev (l : List S32) (hl : l.length ≤ 9223372036854775806) : Ev (fun k => impl_BothOk.f k l) (dec (BOK l)) := iBothOk_l0 l hl l.length 0 (by omega)
theorem iLW_l1 {l : List S32} (h : BOK l) (a : Int) (i : Nat) (hi : i < l.length) (r : Int) (H : Ev (fun k => impl_longestWay.l0 k l (mx a (wayAt l i)) (sF l (i + 1)) l (l.length : Int) ((i + 1 : Nat) : Int)) r) :
    ∀ (d j : Nat), i + j + d = l.length → Ev (fun k => impl_longestWay.l1 k l a (sF l (i + 1)) (sF l (i + 1) + (sS l (i + j) - sS l i)) l (l.length : Int) (i : Int) (l.drop i) ((l.drop i).length : Int) (j : Int)) r := by
  have hl := h.2
  have hd : (l.drop i).length = l.length - i := List.length_drop
  intro d
  induction d with
  | zero =>
    intro j hj
    refine ev_succ ?_
    simp only [impl_longestWay.l1]
    rw [wrap_succ (i := i) (by omega)]
    refine ev_neg (by omega) ?_
    have e : i + j = l.length := by omega
    rw [e]
    unfold wayAt at H
    exact H
  | succ d ih =>
    intro j hj
    have p := sF_in h (i + 1) (by omega)
    have b := sS_mono h (i + j + 1) i (by omega) (by omega)
    have e : (rd_T32 (l.drop i) (j : Int)) = rd_T32 l ((i + j : Nat) : Int) := sBoth_drop l i j
    refine ev_succ ?_
    simp only [impl_longestWay.l1]
    rw [wrap_succ (by omega), e, wrap_id (x := sF l (i + 1) + _ + _) (by simp only [sS] at b; omega) (by simp only [sS] at b; omega)]
    refine ev_pos (by omega) (ev_pos (by omega) (ev_pos (by omega) ?_))
    have := ih (j + 1) (by omega)
    rw [show i + (j + 1) = i + j + 1 by omega] at this
    simp only [sS] at this
    rw [show sF l (i + 1) + (sS l (i + j) - sS l i) + (rd_T32 l ((i + j : Nat) : Int)).f1 = sF l (i + 1) + (sS l (i + j) + (rd_T32 l ((i + j : Nat) : Int)).f1 - sS l i) by omega]
    exact this
theorem iLW_l0 {l : List S32} (h : BOK l) : ∀ (d i : Nat), i + d = l.length → Ev (fun k => impl_longestWay.l0 k l (LW l i) (sF l i) l (l.length : Int) (i : Int)) (LW l l.length) := by
  have hl := h.2
  intro d
  induction d with
  | zero =>
    intro i hi
    obtain rfl : i = l.length := by omega
    refine ev_succ ?_
    simp only [impl_longestWay.l0]
    exact ev_neg (by omega) (Ev.now _)
  | succ d ih =>
    intro i hi
    have p := sF_in h (i + 1) (by omega)
    refine ev_succ ?_
    simp only [impl_longestWay.l0]
    rw [wrap_id (x := sF l i + _) (by simp only [sF] at p; omega) (by simp only [sF] at p; omega)]
    refine ev_pos (by omega) (ev_pos (by omega) (ev_pos (by omega) (ev_pos (by omega) (Ev.bind (Ev.now _) ?_))))
    have := iLW_l1 h (LW l i) i (by omega) _ (ih (i + 1) (by omega)) (l.length - i) 0 (by omega)
    rw [show sF l (i + 1) + (sS l (i + 0) - sS l i) = sF l (i + 1) by simp only [Nat.add_zero]; omega] at this
    exact this
theorem ilongestWay_ev {l : List S32} (h : BOK l) : Ev (fun k => impl_longestWay.f k l) (LW l l.length) := iLW_l0 h l.length 0 (by omega)
theorem iLongestWay_ev (l : List S32) (hl : l.length ≤ 9223372036854775806) : Ev (fun k => impl_LongestWay.f k l) (LWV l) := by
  unfold impl_LongestWay.f
  refine Ev.bind (iBothOk_ev l hl) ?_
  by_cases h : BOK l
  · exact ev_pos (dec_pos h) (Ev.bind (ilongestWay_ev h) (ev_some (LWV_pos h).symm))
  · exact ev_neg (by rw [dec_neg h]; simp) (ev_some (LWV_neg h).symm)
/-- From the last one to the first one, the needs exchanged. -/
def REVB (l o : List S32) : Prop := ∀ j : Nat, j < o.length → rd_T32 o (j : Int) = ⟨(rd_T32 l ((l.length - 1 - j : Nat) : Int)).f1, (rd_T32 l ((l.length - 1 - j : Nat) : Int)).f0⟩
theorem revB_eq {l a b : List S32} (ha : a.length = l.length) (hb : b.length = l.length) (h : REVB l a) (k : REVB l b) : a = b :=
  sBoth_ext (ha.trans hb.symm) (fun j hj => by rw [h j hj, k j (by omega)])
theorem revB_ok {l o : List S32} (hl : o.length = l.length) (h : REVB l o) (b : BOK l) : BOK o := by
  refine ⟨fun j _ hj => ?_, by rw [hl]; exact b.2⟩
  have e := b.1 (l.length - 1 - j) (Nat.zero_le _) (by omega)
  rw [h j hj]
  exact ⟨e.2, e.1⟩
theorem revB_back {l o q : List S32} (hl : o.length = l.length) (hq : q.length = o.length) (h : REVB l o) (k : REVB o q) : q = l := by
  refine sBoth_ext (by omega) (fun j hj => ?_)
  rw [k j hj, h _ (by omega), show l.length - 1 - (o.length - 1 - j) = j by omega]
theorem revB_snoc {l o : List S32} (d : Nat) (ho : o.length + (d + 1) = l.length) (h : REVB l o) : REVB l (o ++ [⟨(rd_T32 l (d : Int)).f1, (rd_T32 l (d : Int)).f0⟩]) := by
  intro j hj
  rw [sBoth_app]
  by_cases e : j < o.length
  · rw [if_pos e]; exact h j e
  · have ej : j = o.length := by simp at hj; omega
    rw [if_neg e, if_pos ej, show l.length - 1 - j = d by omega]
/-- What BackOf answers. -/
def BK (l r : List S32) : Prop := (BOK l ∧ r.length = l.length ∧ REVB l r) ∨ (¬BOK l ∧ r = [])
theorem BK_eq {l a b : List S32} (h : BK l a) (k : BK l b) : a = b := by
  rcases h with h | h <;> rcases k with k | k
  · exact revB_eq h.2.1 k.2.1 h.2.2 k.2.2
  · exact absurd h.1 k.1
  · exact absurd k.1 h.1
  · rw [h.2, k.2]
theorem BK_len {l a : List S32} (h : BK l a) : a.length ≤ 6 := by
  rcases h with h | h
  · have := h.1.2; omega
  · rw [h.2]; simp
theorem iBackOf_l0 {l : List S32} (hb : BOK l) : ∀ (d : Nat) (o : List S32), o.length + d = l.length → REVB l o → ∃ r, Ev (fun k => impl_BackOf.l0 k l o ((d : Int) - 1)) r ∧ BK l r := by
  have hl := hb.2
  intro d
  induction d with
  | zero =>
    intro o ho hr
    refine ⟨o, ev_succ ?_, .inl ⟨hb, by omega, hr⟩⟩
    simp only [impl_BackOf.l0]
    exact ev_neg (by omega) (Ev.now _)
  | succ d ih =>
    intro o ho hr
    obtain ⟨r, h1, h2⟩ := ih _ (by simp; omega) (revB_snoc d ho hr)
    refine ⟨r, ev_succ ?_, h2⟩
    simp only [impl_BackOf.l0]
    rw [show ((d + 1 : Nat) : Int) - 1 = (d : Int) by omega, wrap_pred (by omega)]
    exact ev_pos (by omega) (ev_pos (by omega) (ev_pos (by omega) (ev_pos (by omega) h1)))
theorem iBackOf_ev (l : List S32) (hl : l.length ≤ 9223372036854775806) : ∃ r, Ev (fun k => impl_BackOf.f k l) r ∧ BK l r := by
  unfold impl_BackOf.f
  by_cases h : BOK l
  · obtain ⟨r, h1, h2⟩ := iBackOf_l0 h l.length [] (by simp) (fun j hj => by simp at hj)
    refine ⟨r, Ev.bind (iBothOk_ev l hl) (ev_pos (dec_pos h) ?_), h2⟩
    rw [wrap_id (by omega) (by omega)]
    exact h1
  · exact ⟨[], Ev.bind (iBothOk_ev l hl) (ev_neg (by rw [dec_neg h]; simp) (Ev.now _)), .inr ⟨h, rfl⟩⟩
theorem rd_nat (l : List Int) (i : Nat) : rd l (i : Int) = l.getD i 0 := rfl
theorem rd_set (l : List Int) (i j : Nat) (v : Int) (h : i < l.length) : rd (l.set i v) (j : Int) = if j = i then v else rd l (j : Int) := by
  rw [rd_nat, rd_nat, List.getD_eq_getElem?_getD, List.getElem?_set]
  by_cases e : i = j
  · subst e; rw [if_pos rfl, if_pos h, if_pos rfl]; rfl
  · rw [if_neg e, if_neg (fun x => e x.symm), ← List.getD_eq_getElem?_getD]
theorem rd_app (l : List Int) (v : Int) (j : Nat) : rd (l ++ [v]) (j : Int) = if j < l.length then rd l (j : Int) else if j = l.length then v else 0 := by
  rw [rd_nat, rd_nat, List.getD_eq_getElem?_getD, List.getD_eq_getElem?_getD, List.getElem?_append]
  by_cases h : j < l.length
  · rw [if_pos h, if_pos h]
  · rw [if_neg h, if_neg h]
    by_cases e : j = l.length
    · subst e; rw [if_pos rfl]; simp
    · rw [if_neg e, List.getElem?_eq_none (by simp; omega)]; rfl
theorem rd_take (l : List Int) (n j : Nat) (h : j < n) : rd (l.take n) (j : Int) = rd l (j : Int) := by
  rw [rd_nat, rd_nat, List.getD_eq_getElem?_getD, List.getElem?_take, if_pos h, ← List.getD_eq_getElem?_getD]
theorem rd_ext {a b : List Int} (hl : a.length = b.length) (h : ∀ j : Nat, j < a.length → rd a (j : Int) = rd b (j : Int)) : a = b := by
  refine List.ext_getElem hl fun j h1 h2 => ?_
  have := h j h1
  rw [rd_nat, rd_nat, List.getD_eq_getElem?_getD, List.getD_eq_getElem?_getD, List.getElem?_eq_getElem h1, List.getElem?_eq_getElem h2] at this
  exact this
theorem rd_out (l : List Int) (j : Nat) (h : l.length ≤ j) : rd l (j : Int) = 0 := by
  rw [rd_nat, List.getD_eq_getElem?_getD, List.getElem?_eq_none h]; rfl
theorem rd_mem {l : List Int} {j : Nat} (h : j < l.length) : rd l (j : Int) ∈ l := by
  rw [rd_nat, List.getD_eq_getElem?_getD, List.getElem?_eq_getElem h]; exact List.getElem_mem h
theorem rd_repl (n j : Nat) : rd (List.replicate n (0 : Int)) (j : Int) = 0 := by
  rw [rd_nat, List.getD_eq_getElem?_getD, List.getElem?_replicate]; split <;> rfl
/-- Bytes. -/
def BY (l : List Int) : Prop := l.length ≤ 2000 ∧ ∀ j : Nat, j < l.length → 0 ≤ rd l (j : Int) ∧ rd l (j : Int) ≤ 255
theorem by_of {l : List Int} (h : ∀ x ∈ l, (Lit.int .u8 x).wf = true) (j : Nat) (hj : j < l.length) : 0 ≤ rd l (j : Int) ∧ rd l (j : Int) ≤ 255 := by
  have h1 := h _ (rd_mem hj)
  have h2 : (decide (IntKind.u8.min ≤ rd l (j : Int)) && decide (rd l (j : Int) ≤ IntKind.u8.max)) = true := h1
  have a : IntKind.u8.min = 0 := by decide
  have b : IntKind.u8.max = 255 := by decide
  rw [a, b] at h2
  simpa using h2
theorem xor_nonneg {a b : Int} (ha : 0 ≤ a) (ha2 : a < 4611686018427387904) (hb : 0 ≤ b) (hb2 : b < 4611686018427387904) : 0 ≤ Go.bits .xor .i64 a b := by
  obtain ⟨m, rfl⟩ := Int.eq_ofNat_of_zero_le ha
  obtain ⟨n, rfl⟩ := Int.eq_ofNat_of_zero_le hb
  have hm : m < 2 ^ 62 := by omega
  have hn : n < 2 ^ 62 := by omega
  have hx : m ^^^ n < 2 ^ 62 := Nat.xor_lt_two_pow hm hn
  have e : Go.bits .xor .i64 (m : Int) (n : Int) = Go.IntKind.wrap .i64 ((m ^^^ n : Nat) : Int) := by
    show Go.IntKind.wrap .i64 ((BitVec.ofInt 64 (m : Int) ^^^ BitVec.ofInt 64 (n : Int)).toNat : Int) = _
    rw [BitVec.ofInt_natCast, BitVec.ofInt_natCast, BitVec.toNat_xor, BitVec.toNat_ofNat, BitVec.toNat_ofNat, Nat.mod_eq_of_lt (by omega), Nat.mod_eq_of_lt (by omega)]
  rw [e, Go.IntKind.wrap_i64]
  omega
theorem tmod_in {x n : Int} (h : 0 ≤ x) (hn : 0 < n) : 0 ≤ Int.tmod x n ∧ Int.tmod x n < n := ⟨Int.tmod_nonneg _ h, Int.tmod_lt_of_pos _ hn⟩
theorem rd_by {l : List Int} (h : BY l) (x : Int) (h0 : 0 ≤ x) (h1 : x < (l.length : Int)) : 0 ≤ rd l x ∧ rd l x ≤ 255 := by
  obtain ⟨m, rfl⟩ := Int.eq_ofNat_of_zero_le h0
  exact h.2 m (by omega)
theorem pick_ev {l : List Int} (h : BY l) {p : Int} (h0 : 0 ≤ p) (hp : p ≤ 1073741824) (n : Int) : ∃ v, Ev (fun k => spec_l20Rd_pick.f k l p n) (v, p + 1) ∧ 0 ≤ v ∧ (0 < n → v < n) := by
  unfold spec_l20Rd_pick.f
  rw [wrap_id (x := p + 1) (by omega) (by omega)]
  by_cases hn : n < 1
  · refine ⟨0, ev_pos hn (ev_succ ?_), Int.le_refl _, fun h => h⟩
    simp only [spec_l20Rd_pick.j0]
    exact ev_pos (by simp) (Ev.now _)
  · have hl := h.1
    by_cases hz : l.length = 0
    · refine ⟨0, ev_neg hn (ev_succ ?_), Int.le_refl _, fun h => h⟩
      simp only [spec_l20Rd_pick.j0]
      exact ev_pos (by simp [hz]) (Ev.now _)
    · have e1 : wrap64 (p + 1 - 1) = p := by rw [wrap_id (by omega) (by omega)]; omega
      by_cases hlt : p < (l.length : Int)
      · have hb := rd_by h p h0 hlt
        refine ⟨Int.tmod (wrap64 (rd l p)) n, ev_neg hn (ev_succ ?_), ?_⟩
        · simp only [spec_l20Rd_pick.j0, e1]
          exact ev_neg (by rw [beq_iff_eq]; omega) (ev_pos hlt (ev_pos h0 (ev_neg (by omega) (Ev.now _))))
        · rw [wrap_id (by omega) (by omega)]
          exact ⟨(tmod_in hb.1 (by omega)).1, fun _ => (tmod_in hb.1 (by omega)).2⟩
      · have b1 := tmod_in h0 (n := (l.length : Int)) (by omega)
        have r1 := rd_by h _ b1.1 b1.2
        have e2 : wrap64 (wrap64 (p * 7) + 3) = p * 7 + 3 := by rw [wrap_id (x := p * 7) (by omega) (by omega), wrap_id (by omega) (by omega)]
        have b2 := tmod_in (x := p * 7 + 3) (by omega) (n := (l.length : Int)) (by omega)
        have r2 := rd_by h _ b2.1 b2.2
        have d1 : 0 ≤ Int.tdiv p (l.length : Int) := Int.tdiv_nonneg h0 (by omega)
        have d2 : Int.tdiv p (l.length : Int) ≤ p := Int.tdiv_le_self _ h0
        obtain ⟨x, hx⟩ : ∃ x, x = rd l (Int.tmod p (l.length : Int)) * 131 + rd l (Int.tmod (p * 7 + 3) (l.length : Int)) * 1117 + p * 29 + Int.tdiv p (l.length : Int) * 53 := ⟨_, rfl⟩
        have ex : wrap64 (wrap64 (wrap64 (wrap64 (wrap64 (rd l (Int.tmod p (l.length : Int))) * 131) + wrap64 (wrap64 (rd l (Int.tmod (p * 7 + 3) (l.length : Int))) * 1117)) + wrap64 (p * 29)) + wrap64 (wrap64 (Int.tdiv p (l.length : Int)) * 53)) = x := by
          rw [wrap_id (x := rd l (Int.tmod p (l.length : Int))) (by omega) (by omega), wrap_id (x := rd l (Int.tmod (p * 7 + 3) (l.length : Int))) (by omega) (by omega), wrap_id (x := Int.tdiv p (l.length : Int)) (by omega) (by omega),
            wrap_id (x := rd l (Int.tmod p (l.length : Int)) * 131) (by omega) (by omega), wrap_id (x := rd l (Int.tmod (p * 7 + 3) (l.length : Int)) * 1117) (by omega) (by omega), wrap_id (x := p * 29) (by omega) (by omega),
            wrap_id (x := Int.tdiv p (l.length : Int) * 53) (by omega) (by omega), wrap_id (x := rd l (Int.tmod p (l.length : Int)) * 131 + _) (by omega) (by omega), wrap_id (x := rd l (Int.tmod p (l.length : Int)) * 131 + rd l (Int.tmod (p * 7 + 3) (l.length : Int)) * 1117 + p * 29) (by omega) (by omega), wrap_id (by omega) (by omega), hx]
        have hx0 : 0 ≤ x := by omega
        have hx1 : x < 4611686018427387904 := by omega
        have d3 : 0 ≤ Int.tdiv x 64 := Int.tdiv_nonneg hx0 (by omega)
        have d4 : Int.tdiv x 64 ≤ x := Int.tdiv_le_self _ hx0
        have e3 : wrap64 (Int.tdiv x 64) = Int.tdiv x 64 := wrap_id (by omega) (by omega)
        have hxor := xor_nonneg hx0 hx1 d3 (by omega)
        refine ⟨Int.tmod (Go.bits .xor .i64 x (Int.tdiv x 64)) n, ev_neg hn (ev_succ ?_), (tmod_in hxor (by omega)).1, fun _ => (tmod_in hxor (by omega)).2⟩
        simp only [spec_l20Rd_pick.j0, e1, e2, ex, e3]
        exact ev_neg (by rw [beq_iff_eq]; omega) (ev_neg hlt (ev_neg (by omega) (ev_pos b1.1 (ev_pos b1.2 (ev_pos b2.1 (ev_pos b2.2 (ev_neg (by omega) (Ev.now _))))))))
theorem odd_ev {l : List Int} (h : BY l) {p : Int} (h0 : 0 ≤ p) (hp : p ≤ 1073741824) (n : Int) : ∃ b q, Ev (fun k => spec_l20Rd_odd.f k l p n) (b, q) ∧ 0 ≤ q ∧ q ≤ p + 1 := by
  unfold spec_l20Rd_odd.f
  by_cases hn : n > 0
  · obtain ⟨v, hv, _⟩ := pick_ev h h0 hp n
    exact ⟨_, _, ev_pos hn (Ev.bind hv (Ev.now _)), by simp only; omega, by simp only; omega⟩
  · exact ⟨_, _, ev_neg hn (Ev.now _), h0, by omega⟩
theorem l20Both_l0 {B : List Int} (h : BY B) (n hi : Int) (hh : 1 ≤ hi ∧ hi ≤ 9) : ∀ (d : Nat) (o : List S32) (p : Int), 0 ≤ p → p + 2 * d ≤ 1073741000 → o.length + d ≤ 100 → 1 ≤ o.length + d →
    ∃ t q, Ev (fun k => spec_l20Both.l0 k n o hi (d : Int) B p) (t, q) ∧ t.length ≤ 101 ∧ 0 ≤ q ∧ q ≤ p + 2 * d + 2 := by
  intro d
  induction d with
  | zero =>
    intro o p h0 hp ho ho1
    obtain ⟨b, q, hb, hq0, hq⟩ := odd_ev h h0 (by omega) n
    cases b with
    | true =>
      obtain ⟨v, hv, hv0, hv3⟩ := pick_ev h hq0 (by omega) 3
      by_cases e0 : v = 0
      · refine ⟨[], q + 1, ev_succ ?_, by simp, by omega, by omega⟩
        simp only [spec_l20Both.l0]
        exact ev_neg (by simp) (Ev.bind hb (ev_pos rfl (Ev.bind hv (ev_pos e0 (Ev.now _)))))
      · by_cases e1 : v = 1
        · refine ⟨o.set 0 ⟨(rd_T32 o 0).f0, 0⟩, q + 1, ev_succ ?_, by rw [List.length_set]; omega, by omega, by omega⟩
          simp only [spec_l20Both.l0]
          exact ev_neg (by simp) (Ev.bind hb (ev_pos rfl (Ev.bind hv (ev_neg e0 (ev_pos e1 (ev_pos (by omega) (Ev.now _)))))))
        · refine ⟨List.replicate 7 z32, q + 1, ev_succ ?_, by simp, by omega, by omega⟩
          simp only [spec_l20Both.l0]
          exact ev_neg (by simp) (Ev.bind hb (ev_pos rfl (Ev.bind hv (ev_neg e0 (ev_neg e1 (ev_pos (by omega) (Ev.now _)))))))
    | false =>
      refine ⟨o, q, ev_succ ?_, by omega, by omega, by omega⟩
      simp only [spec_l20Both.l0]
      exact ev_neg (by simp) (Ev.bind hb (ev_neg (by simp) (Ev.now _)))
  | succ d ih =>
    intro o p h0 hp ho ho1
    obtain ⟨v, hv, hv0, _⟩ := pick_ev h h0 (by omega) hi
    obtain ⟨u, hu, hu0, _⟩ := pick_ev h (p := p + 1) (by omega) (by omega) hi
    obtain ⟨t, q, ht, hl, hq0, hq⟩ := ih (o ++ [⟨wrap64 (1 + v), wrap64 (1 + u)⟩]) (p + 1 + 1) (by omega) (by omega) (by simp; omega) (by simp; omega)
    refine ⟨t, q, ev_succ ?_, hl, hq0, by omega⟩
    simp only [spec_l20Both.l0]
    refine ev_pos (by omega) (Ev.bind hv (Ev.bind hu (ev_pos (by omega) ?_)))
    rw [show wrap64 (((d + 1 : Nat) : Int) - 1) = (d : Int) by rw [wrap_id (by omega) (by omega)]; omega]
    exact ht
theorem l20Both_ev {B : List Int} (h : BY B) {p : Int} (h0 : 0 ≤ p) (hp : p ≤ 1000000) (n : Int) : ∃ t q, Ev (fun k => spec_l20Both.f k B p n) (t, q) ∧ t.length ≤ 101 ∧ 0 ≤ q ∧ q ≤ p + 20 := by
  unfold spec_l20Both.f
  obtain ⟨v, hv, hv0, hv2⟩ := pick_ev h h0 (by omega) 2
  obtain ⟨u, hu, hu0, hu5⟩ := pick_ev h (p := p + 1) (by omega) (by omega) 5
  have hh : 1 ≤ rd [3, 9] v ∧ rd [3, 9] v ≤ 9 := by
    have : v = 0 ∨ v = 1 := by have := hv2 (by omega); omega
    rcases this with rfl | rfl <;> decide
  obtain ⟨d, hd⟩ := Int.eq_ofNat_of_zero_le (show 0 ≤ 1 + u by omega)
  have hu5 := hu5 (by omega)
  obtain ⟨t, q, ht, hl, hq0, hq⟩ := l20Both_l0 h n _ hh d [] (p + 1 + 1) (by omega) (by omega) (by simp; omega) (by simp; omega)
  refine ⟨t, q, ?_, hl, hq0, by omega⟩
  refine Ev.bind (Ev.now _) (Ev.bind hv (ev_pos hv0 (ev_pos (by simp; omega) (Ev.bind hu ?_))))
  simp only
  rw [wrap_id (x := 1 + u) (by omega) (by omega), hd]
  exact ht
theorem open_ev {l : List Int} (h : ∀ x ∈ l, (Lit.int .u8 x).wf = true) : ∃ q, BY q ∧ Ev (fun _ => spec_l20Open.f l) (q, 0) := by
  unfold spec_l20Open.f
  by_cases h1 : (l.length : Int) > 2000
  · refine ⟨l.take 2000, ⟨by rw [List.length_take]; omega, fun j hj => ?_⟩, ev_pos h1 (ev_pos (by omega) (Ev.now _))⟩
    rw [List.length_take] at hj
    rw [rd_take _ _ _ (by omega)]
    exact by_of h j (by omega)
  · exact ⟨l, ⟨by omega, fun j hj => by_of h j hj⟩, ev_neg h1 (Ev.now _)⟩
theorem sCustomer_nat (l : List S52) (i : Nat) : rd_T52 l (i : Int) = l.getD i z52 := rfl
theorem sCustomer_get {l : List S52} {i : Nat} (h : i < l.length) : rd_T52 l (i : Int) = l[i] := by
  rw [sCustomer_nat, List.getD_eq_getElem?_getD, List.getElem?_eq_getElem h]; rfl
theorem sCustomer_set (l : List S52) (i j : Nat) (v : S52) (h : i < l.length) : rd_T52 (l.set i v) (j : Int) = if j = i then v else rd_T52 l (j : Int) := by
  rw [sCustomer_nat, sCustomer_nat, List.getD_eq_getElem?_getD, List.getElem?_set]
  by_cases e : i = j
  · subst e; rw [if_pos rfl, if_pos h, if_pos rfl]; rfl
  · rw [if_neg e, if_neg (fun x => e x.symm), ← List.getD_eq_getElem?_getD]
theorem sCustomer_app (l : List S52) (v : S52) (j : Nat) : rd_T52 (l ++ [v]) (j : Int) = if j < l.length then rd_T52 l (j : Int) else if j = l.length then v else z52 := by
  rw [sCustomer_nat, sCustomer_nat, List.getD_eq_getElem?_getD, List.getD_eq_getElem?_getD, List.getElem?_append]
  by_cases h : j < l.length
  · rw [if_pos h, if_pos h]
  · rw [if_neg h, if_neg h]
    by_cases e : j = l.length
    · subst e; rw [if_pos rfl]; simp
    · rw [if_neg e, List.getElem?_eq_none (by simp; omega)]; rfl
theorem sCustomer_take (l : List S52) (n j : Nat) (h : j < n) : rd_T52 (l.take n) (j : Int) = rd_T52 l (j : Int) := by
  rw [sCustomer_nat, sCustomer_nat, List.getD_eq_getElem?_getD, List.getElem?_take, if_pos h, ← List.getD_eq_getElem?_getD]
theorem sCustomer_drop (l : List S52) (n j : Nat) : rd_T52 (l.drop n) (j : Int) = rd_T52 l ((n + j : Nat) : Int) := by
  rw [sCustomer_nat, sCustomer_nat, List.getD_eq_getElem?_getD, List.getElem?_drop, ← List.getD_eq_getElem?_getD]
theorem sCustomer_ext {a b : List S52} (hl : a.length = b.length) (h : ∀ j : Nat, j < a.length → rd_T52 a (j : Int) = rd_T52 b (j : Int)) : a = b := by
  refine List.ext_getElem hl fun j h1 h2 => ?_
  have := h j h1
  rw [sCustomer_get h1, sCustomer_get h2] at this
  exact this
def CIn (l : List S52) (j : Nat) : Prop := (0 ≤ (rd_T52 l (j : Int)).f0 ∧ (rd_T52 l (j : Int)).f0 ≤ 60) ∧ (1 ≤ (rd_T52 l (j : Int)).f1 ∧ (rd_T52 l (j : Int)).f1 ≤ 9) ∧ (0 < j → (rd_T52 l ((j : Int) - 1)).f0 ≤ (rd_T52 l (j : Int)).f0)
/-- Customers. -/
def COK (l : List S52) : Prop := (∀ j : Nat, 0 ≤ j → j < l.length → CIn l j) ∧ (l.length : Int) ≤ 8
theorem iCustomersOk_l0 (l : List S52) (hl : l.length ≤ 9223372036854775806) : ∀ d i : Nat, i + d = l.length →
    Ev (fun k => impl_CustomersOk.l0 k l l (l.length : Int) (i : Int)) (dec ((∀ j : Nat, i ≤ j → j < l.length → CIn l j) ∧ (l.length : Int) ≤ 8)) := by
  intro d
  induction d with
  | zero =>
    intro i hi
    refine ev_succ ?_
    simp only [impl_CustomersOk.l0]
    refine ev_neg (by omega) (ev_some ?_)
    obtain rfl : i = l.length := by omega
    rw [dec_of]
    exact dec_congr ⟨fun h => ⟨from_end, h⟩, fun h => h.2⟩
  | succ d ih =>
    intro i hi
    refine ev_succ ?_
    simp only [impl_CustomersOk.l0]
    have hs := from_step (i := i) (n := l.length) (Q := fun j => CIn l j) (by omega)
    refine ev_pos (by omega) (ev_pos (by omega) (ev_pos (by omega) ?_))
    by_cases h1 : (rd_T52 l (i : Int)).f0 < 0
    · exact ev_pos h1 (ev_some (dec_neg (fun x => by have := (hs.1 x.1).1.1.1; omega)).symm)
    refine ev_neg h1 ?_
    by_cases h2 : (rd_T52 l (i : Int)).f0 > 60
    · exact ev_pos h2 (ev_some (dec_neg (fun x => by have := (hs.1 x.1).1.1.2; omega)).symm)
    refine ev_neg h2 ?_
    rw [wrap_succ (by omega), wrap_pred (by omega)]
    have fin : (0 < i → (rd_T52 l ((i : Int) - 1)).f0 ≤ (rd_T52 l (i : Int)).f0) → Ev (fun k => if (rd_T52 l (i : Int)).f1 < 1 then some false else if (rd_T52 l (i : Int)).f1 > 9 then some false else impl_CustomersOk.l0 k l l (l.length : Int) ((i + 1 : Nat) : Int)) (dec ((∀ j : Nat, i ≤ j → j < l.length → CIn l j) ∧ (l.length : Int) ≤ 8)) := by
      intro hp
      by_cases h3 : (rd_T52 l (i : Int)).f1 < 1
      · exact ev_pos h3 (ev_some (dec_neg (fun x => by have := (hs.1 x.1).1.2.1.1; omega)).symm)
      refine ev_neg h3 ?_
      by_cases h4 : (rd_T52 l (i : Int)).f1 > 9
      · exact ev_pos h4 (ev_some (dec_neg (fun x => by have := (hs.1 x.1).1.2.1.2; omega)).symm)
      refine ev_neg h4 (ev_to (ih (i + 1) (by omega)) (dec_congr ?_))
      rw [hs]
      exact ⟨fun x => ⟨⟨⟨⟨by omega, by omega⟩, ⟨by omega, by omega⟩, hp⟩, x.1⟩, x.2⟩, fun x => ⟨x.1.2, x.2⟩⟩
    by_cases h5 : (i : Int) > 0
    · refine ev_pos h5 (ev_pos (by omega) (ev_pos (by omega) ?_))
      by_cases h6 : (rd_T52 l (i : Int)).f0 < (rd_T52 l ((i : Int) - 1)).f0
      · exact ev_pos h6 (ev_some (dec_neg (fun x => by have := (hs.1 x.1).1.2.2 (by omega); omega)).symm)
      · exact ev_neg h6 (fin (fun _ => by omega))
    · exact ev_neg h5 (fin (fun h => by omega))
theorem iCustomersOk_ev (l : List S52) (hl : l.length ≤ 9223372036854775806) : Ev (fun k => impl_CustomersOk.f k l) (dec (COK l)) := iCustomersOk_l0 l hl l.length 0 (by omega)
theorem alive_ev : Ev (fun k => laws_alive.f k) true := by
  unfold laws_alive.f
  refine Ev.bind (iCustomersOk_ev _ (by decide)) (ev_pos (dec_pos ?_) (Ev.bind (iCustomersOk_ev _ (by decide)) (ev_some ?_)))
  · refine ⟨fun j _ hj => ?_, by decide⟩
    obtain rfl : j = 0 := by simp at hj; omega
    exact ⟨by decide, by decide, fun h => absurd h (by decide)⟩
  · rw [dec_neg]
    · rfl
    · intro h
      exact absurd (h.1 0 (Nat.le_refl _) (by decide)).2.1.1 (by decide)
theorem rev_sF {l o : List S32} (hl : o.length = l.length) (h : REVB l o) : ∀ i : Nat, i ≤ l.length → sF o i = sS l l.length - sS l (l.length - i)
  | 0, _ => by simp [sF]
  | i + 1, hi => by
    have a := rev_sF hl h i (by omega)
    have e := h i (by omega)
    have s : sS l (l.length - i) = sS l (l.length - 1 - i) + (rd_T32 l ((l.length - 1 - i : Nat) : Int)).f1 := by
      rw [show l.length - i = (l.length - 1 - i) + 1 by omega]; rfl
    simp only [sF]
    rw [a, e, show l.length - (i + 1) = l.length - 1 - i by omega]
    simp only
    omega
theorem rev_sS {l o : List S32} (hl : o.length = l.length) (h : REVB l o) : ∀ i : Nat, i ≤ l.length → sS o i = sF l l.length - sF l (l.length - i)
  | 0, _ => by simp [sS]
  | i + 1, hi => by
    have a := rev_sS hl h i (by omega)
    have e := h i (by omega)
    have s : sF l (l.length - i) = sF l (l.length - 1 - i) + (rd_T32 l ((l.length - 1 - i : Nat) : Int)).f0 := by
      rw [show l.length - i = (l.length - 1 - i) + 1 by omega]; rfl
    simp only [sS]
    rw [a, e, show l.length - (i + 1) = l.length - 1 - i by omega]
    simp only
    omega
theorem rev_way {l o : List S32} (hl : o.length = l.length) (h : REVB l o) (i : Nat) (hi : i < l.length) : wayAt o i = wayAt l (l.length - 1 - i) := by
  unfold wayAt
  rw [hl, rev_sF hl h (i + 1) (by omega), rev_sS hl h l.length (Nat.le_refl _), rev_sS hl h i (by omega), show l.length - l.length = 0 by omega, show l.length - 1 - i + 1 = l.length - i by omega, show l.length - (i + 1) = l.length - 1 - i by omega]
  have : sF l 0 = 0 := rfl
  omega
theorem rev_LW {l o : List S32} (hl : o.length = l.length) (h : REVB l o) (hb : BOK l) : LW o o.length = LW l l.length := by
  have ho := revB_ok hl h hb
  have n1 := hb.2
  obtain ⟨i, hi, e⟩ := LW_ex hb l.length (by omega) (Nat.le_refl _)
  obtain ⟨j, hj, e2⟩ := LW_ex ho o.length (by omega) (Nat.le_refl _)
  have a := LW_ge (l := l) l.length (l.length - 1 - j) (by omega)
  have b := LW_ge (l := o) o.length (l.length - 1 - i) (by omega)
  rw [rev_way hl h j (by omega)] at e2
  rw [rev_way hl h _ (by omega), show l.length - 1 - (l.length - 1 - i) = i by omega] at b
  omega
theorem FnLongestWay_l0 {l : List S32} (hb : BOK l) : ∀ (d i : Nat), i + d = l.length → Ev (fun k => laws_FnLongestWay.l0 k l (LW l l.length) (sF l i) (sS l i) (i : Int)) true := by
  have hl := hb.2
  intro d
  induction d with
  | zero =>
    intro i hi
    obtain rfl : i = l.length := by omega
    refine ev_succ ?_
    simp only [laws_FnLongestWay.l0]
    obtain ⟨r, h1, h2⟩ := iBackOf_ev l (by omega)
    have hrl := BK_len h2
    rcases h2 with ⟨_, k2, k3⟩ | ⟨k1, _⟩
    · have ok := revB_ok k2 k3 hb
      have f := sF_in hb l.length (Nat.le_refl _)
      have s := sS_in hb l.length (Nat.le_refl _)
      have w0 := LW_ge (l := l) l.length 0 (by omega)
      have w1 := LW_ge (l := l) l.length (l.length - 1) (by omega)
      obtain ⟨i, hi, e⟩ := LW_ex hb l.length (by omega) (Nat.le_refl _)
      have g1 : sF l (0 + 1) = sF l 0 + (rd_T32 l ((0 : Nat) : Int)).f0 := rfl
      have g2 : sF l 0 = 0 := rfl
      have g3 : sS l 0 = 0 := rfl
      have g4 := (hb.1 0 (Nat.le_refl _) (by omega)).1
      have g5 : sS l (l.length - 1 + 1) = sS l (l.length - 1) + (rd_T32 l ((l.length - 1 : Nat) : Int)).f1 := rfl
      have g6 := (hb.1 (l.length - 1) (by omega) (by omega)).2
      have g7 := sF_mono hb l.length (i + 1) (by omega) (Nat.le_refl _)
      have g8 := sS_mono hb i 0 (by omega) (by omega)
      unfold wayAt at w0 w1 e
      rw [show l.length - 1 + 1 = l.length by omega] at w1 g5
      refine ev_neg (by omega) (Ev.bind h1 (Ev.bind (iLongestWay_ev r (by omega)) (ev_pos ?_ (ev_pos (by omega) (ev_pos (by omega) (ev_some ?_))))))
      · rw [LWV_pos ok, rev_LW k2 k3 hb]
      · rw [wrap_id (by omega) (by omega)]
        exact decide_eq_true (by omega)
    · exact absurd hb k1
  | succ d ih =>
    intro i hi
    have f := sF_in hb (i + 1) (by omega)
    have s := sS_in hb (i + 1) (by omega)
    have e1 : wrap64 (sF l i + (rd_T32 l (i : Int)).f0) = sF l (i + 1) := wrap_id (by simp only [sF] at f; omega) (by simp only [sF] at f; omega)
    have e2 : wrap64 (sS l i + (rd_T32 l (i : Int)).f1) = sS l (i + 1) := wrap_id (by simp only [sS] at s; omega) (by simp only [sS] at s; omega)
    refine ev_succ ?_
    simp only [laws_FnLongestWay.l0, e1, e2]
    rw [wrap_succ (i := i) (by omega)]
    exact ev_pos (by omega) (ev_pos (by omega) (ih (i + 1) (by omega)))
theorem FnLongestWay : laws_FnLongestWay.Pure := by
  intro l0 _ _ hb
  refine Ev.rounds ?_
  unfold laws_FnLongestWay.f spec_DrawLongestWay.f
  by_cases h : (l0.length : Int) > 1048576
  · exact ev_pos h (Ev.now _)
  · obtain ⟨B, hB, ho⟩ := open_ev hb
    obtain ⟨t, q, ht, hl, _⟩ := l20Both_ev hB (p := 0) (by omega) (by omega) 9
    refine ev_neg h (Ev.bind (Ev.bind ho (Ev.bind ht (Ev.now _))) (Ev.bind (iLongestWay_ev t (by omega)) (Ev.bind (sLongestWay_ev t (by omega)) (ev_pos rfl ?_))))
    by_cases ok : BOK t
    · simp only [LWV_pos ok]
      refine ev_neg (by have := (LW_in ok t.length (Nat.le_refl _)).1; omega) ?_
      exact FnLongestWay_l0 ok t.length 0 (by omega)
    · simp only [LWV_neg ok]
      exact ev_pos (by omega) (ev_pos (by simp) (Ev.bind alive_ev (Ev.now _)))
end Go.Proofs.Ytbmhkhdmedemaaa.Pure
