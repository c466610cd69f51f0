/- The law FnExactLeavesBoth holds for every input; nothing is assumed. -/
import Derived.Test.YtbmhkhdmedemaaaPFnExactLeavesBothx3
namespace Go.Proofs.Ytbmhkhdmedemaaa.Pure
open Go.RowKit Go.Proofs.Ytbmhkhdmedemaaa.PFnExactLeavesBoth Go.Proofs.YtbmhkhdmedemaaaW.PrintWords Go.Proofs.YtbmhkhdmedemaaaW.PrintLast Go.Proofs.YtbmhkhdmedemaaaW.PrintMore
set_option linter.unusedVariables false
set_option linter.unusedSimpArgs false
theorem ev_succ {α : Type} {g : Nat → Option α} {r : α} (h : Ev (fun k => g (k + 1)) r) : Ev g r := Ev.step (fun _ => rfl) h
theorem ev_pos {α : Type} {c : Prop} [Decidable c] {f g : Nat → Option α} {r : α} (h : c) (k : Ev f r) : Ev (fun n => if c then f n else g n) r := Ev.congr (fun _ => if_pos h) k
theorem ev_neg {α : Type} {c : Prop} [Decidable c] {f g : Nat → Option α} {r : α} (h : ¬c) (k : Ev g r) : Ev (fun n => if c then f n else g n) r := Ev.congr (fun _ => if_neg h) k
theorem ev_some {α : Type} {x r : α} (h : x = r) : Ev (fun _ => some x) r := h ▸ Ev.now x
theorem ev_to {α : Type} {g : Nat → Option α} {a r : α} (h : Ev g a) (e : a = r) : Ev g r := e ▸ h
/-- Whether P. -/
noncomputable def dec (P : Prop) : Bool := @decide P (Classical.propDecidable P)
theorem dec_iff {P : Prop} : dec P = true ↔ P := @decide_eq_true_iff P (Classical.propDecidable P)
theorem dec_pos {P : Prop} (h : P) : dec P = true := dec_iff.2 h
theorem dec_neg {P : Prop} (h : ¬P) : dec P = false := by
  cases e : dec P
  · rfl
  · exact absurd (dec_iff.1 e) h
theorem dec_congr {P Q : Prop} (h : P ↔ Q) : dec P = dec Q := by rw [propext h]
theorem dec_of {P : Prop} [Decidable P] : decide P = dec P := by
  by_cases h : P
  · rw [dec_pos h, decide_eq_true h]
  · rw [dec_neg h, decide_eq_false h]
theorem dec_bool {b : Bool} : b = dec (b = true) := by
  cases b
  · exact (dec_neg (by simp)).symm
  · exact (dec_pos rfl).symm
/-- From i on: at i, and from i + 1 on. -/
theorem from_step {i n : Nat} {Q : Nat → Prop} (h : i < n) : (∀ j, i ≤ j → j < n → Q j) ↔ Q i ∧ ∀ j, i + 1 ≤ j → j < n → Q j := by
  constructor
  · exact fun a => ⟨a i (Nat.le_refl _) h, fun j h1 h2 => a j (by omega) h2⟩
  · intro a j h1 h2
    by_cases e : j = i
    · exact e ▸ a.1
    · exact a.2 j (by omega) h2
theorem from_end {n : Nat} {Q : Nat → Prop} : ∀ j, n ≤ j → j < n → Q j := fun j h1 h2 => by omega
theorem wrap_id {x : Int} (h0 : -9223372036854775808 ≤ x) (h1 : x ≤ 9223372036854775807) : wrap64 x = x := by unfold wrap64; omega
theorem wrap_succ {i : Nat} (h : i ≤ 9223372036854775806) : wrap64 ((i : Int) + 1) = ((i + 1 : Nat) : Int) := by unfold wrap64; omega
theorem wrap_pred {i : Nat} (h : i ≤ 9223372036854775806) : wrap64 ((i : Int) - 1) = (i : Int) - 1 := by unfold wrap64; omega
/-- The bounds of a number of the kind int. -/
def I64 (x : Int) : Prop := -9223372036854775808 ≤ x ∧ x ≤ 9223372036854775807
theorem i64_wf {x : Int} (h : (Lit.int .i64 x).wf = true) : I64 x := by
  have h' : (decide (IntKind.i64.min ≤ x) && decide (x ≤ IntKind.i64.max)) = true := h
  have a : IntKind.i64.min = -9223372036854775808 := by decide
  have b : IntKind.i64.max = 9223372036854775807 := by decide
  rw [a, b] at h'
  simpa [I64] using h'
theorem sBoth_nat (l : List S32) (i : Nat) : rd_T32 l (i : Int) = l.getD i z32 := rfl
theorem sBoth_get {l : List S32} {i : Nat} (h : i < l.length) : rd_T32 l (i : Int) = l[i] := by
  rw [sBoth_nat, List.getD_eq_getElem?_getD, List.getElem?_eq_getElem h]; rfl
theorem sBoth_set (l : List S32) (i j : Nat) (v : S32) (h : i < l.length) : rd_T32 (l.set i v) (j : Int) = if j = i then v else rd_T32 l (j : Int) := by
  rw [sBoth_nat, sBoth_nat, List.getD_eq_getElem?_getD, List.getElem?_set]
  by_cases e : i = j
  · subst e; rw [if_pos rfl, if_pos h, if_pos rfl]; rfl
  · rw [if_neg e, if_neg (fun x => e x.symm), ← List.getD_eq_getElem?_getD]
theorem sBoth_app (l : List S32) (v : S32) (j : Nat) : rd_T32 (l ++ [v]) (j : Int) = if j < l.length then rd_T32 l (j : Int) else if j = l.length then v else z32 := by
  rw [sBoth_nat, sBoth_nat, List.getD_eq_getElem?_getD, List.getD_eq_getElem?_getD, List.getElem?_append]
  by_cases h : j < l.length
  · rw [if_pos h, if_pos h]
  · rw [if_neg h, if_neg h]
    by_cases e : j = l.length
    · subst e; rw [if_pos rfl]; simp
    · rw [if_neg e, List.getElem?_eq_none (by simp; omega)]; rfl
theorem sBoth_take (l : List S32) (n j : Nat) (h : j < n) : rd_T32 (l.take n) (j : Int) = rd_T32 l (j : Int) := by
  rw [sBoth_nat, sBoth_nat, List.getD_eq_getElem?_getD, List.getElem?_take, if_pos h, ← List.getD_eq_getElem?_getD]
theorem sBoth_drop (l : List S32) (n j : Nat) : rd_T32 (l.drop n) (j : Int) = rd_T32 l ((n + j : Nat) : Int) := by
  rw [sBoth_nat, sBoth_nat, List.getD_eq_getElem?_getD, List.getElem?_drop, ← List.getD_eq_getElem?_getD]
theorem sBoth_ext {a b : List S32} (hl : a.length = b.length) (h : ∀ j : Nat, j < a.length → rd_T32 a (j : Int) = rd_T32 b (j : Int)) : a = b := by
  refine List.ext_getElem hl fun j h1 h2 => ?_
  have := h j h1
  rw [sBoth_get h1, sBoth_get h2] at this
  exact this
def BIn (x : S32) : Prop := (1 ≤ x.f0 ∧ x.f0 ≤ 9) ∧ 1 ≤ x.f1 ∧ x.f1 ≤ 9
/-- Customers of two counters. -/
def BOK (l : List S32) : Prop := (∀ j : Nat, 0 ≤ j → j < l.length → BIn (rd_T32 l (j : Int))) ∧ 1 ≤ (l.length : Int) ∧ (l.length : Int) ≤ 6
/-- What the first i need at the first counter; at the second one. -/
def sF (l : List S32) : Nat → Int
  | 0 => 0
  | i + 1 => sF l i + (rd_T32 l (i : Int)).f0
def sS (l : List S32) : Nat → Int
  | 0 => 0
  | i + 1 => sS l i + (rd_T32 l (i : Int)).f1
theorem sF_in {l : List S32} (h : BOK l) : ∀ i : Nat, i ≤ l.length → (i : Int) ≤ sF l i ∧ sF l i ≤ 9 * (i : Int)
  | 0, _ => by simp [sF]
  | i + 1, hi => by
    have a := sF_in h i (by omega)
    have b := (h.1 i (Nat.zero_le _) (by omega)).1
    simp only [sF]; omega
theorem sS_in {l : List S32} (h : BOK l) : ∀ i : Nat, i ≤ l.length → (i : Int) ≤ sS l i ∧ sS l i ≤ 9 * (i : Int)
  | 0, _ => by simp [sS]
  | i + 1, hi => by
    have a := sS_in h i (by omega)
    have b := (h.1 i (Nat.zero_le _) (by omega)).2
    simp only [sS]; omega
theorem sS_mono {l : List S32} (h : BOK l) (j : Nat) : ∀ i : Nat, i ≤ j → j ≤ l.length → sS l i ≤ sS l j ∧ sS l j - sS l i ≤ 9 * ((j : Int) - i) := by
  induction j with
  | zero => intro i hi _; obtain rfl : i = 0 := by omega
            exact ⟨Int.le_refl _, by omega⟩
  | succ j ih =>
    intro i hi hj
    by_cases e : i = j + 1
    · subst e; exact ⟨Int.le_refl _, by omega⟩
    · have a := ih i (by omega) (by omega)
      have b := (h.1 j (Nat.zero_le _) (by omega)).2
      simp only [sS]; omega
theorem sF_mono {l : List S32} (h : BOK l) (j : Nat) : ∀ i : Nat, i ≤ j → j ≤ l.length → sF l i ≤ sF l j := by
  induction j with
  | zero => intro i hi _; obtain rfl : i = 0 := by omega
            exact Int.le_refl _
  | succ j ih =>
    intro i hi hj
    by_cases e : i = j + 1
    · subst e; exact Int.le_refl _
    · have a := ih i (by omega) (by omega)
      have b := (h.1 j (Nat.zero_le _) (by omega)).1
      simp only [sF]; omega
theorem mx_lt {a b : Int} (h : a < b) : mx a b = b := if_pos h
theorem mx_ge {a b : Int} (h : ¬ a < b) : mx a b = a := if_neg h
theorem mx_le {a b c : Int} : mx a b ≤ c ↔ a ≤ c ∧ b ≤ c := by unfold mx; split <;> omega
theorem le_mx {a b : Int} : a ≤ mx a b ∧ b ≤ mx a b := by unfold mx; split <;> omega
theorem mx_max (a b : Int) : mx a b = max a b := by unfold mx; split <;> omega
theorem rd_nat (l : List Int) (i : Nat) : rd l (i : Int) = l.getD i 0 := rfl
theorem rd_set (l : List Int) (i j : Nat) (v : Int) (h : i < l.length) : rd (l.set i v) (j : Int) = if j = i then v else rd l (j : Int) := by
  rw [rd_nat, rd_nat, List.getD_eq_getElem?_getD, List.getElem?_set]
  by_cases e : i = j
  · subst e; rw [if_pos rfl, if_pos h, if_pos rfl]; rfl
  · rw [if_neg e, if_neg (fun x => e x.symm), ← List.getD_eq_getElem?_getD]
theorem rd_app (l : List Int) (v : Int) (j : Nat) : rd (l ++ [v]) (j : Int) = if j < l.length then rd l (j : Int) else if j = l.length then v else 0 := by
  rw [rd_nat, rd_nat, List.getD_eq_getElem?_getD, List.getD_eq_getElem?_getD, List.getElem?_append]
  by_cases h : j < l.length
  · rw [if_pos h, if_pos h]
  · rw [if_neg h, if_neg h]
    by_cases e : j = l.length
    · subst e; rw [if_pos rfl]; simp
    · rw [if_neg e, List.getElem?_eq_none (by simp; omega)]; rfl
theorem rd_take (l : List Int) (n j : Nat) (h : j < n) : rd (l.take n) (j : Int) = rd l (j : Int) := by
  rw [rd_nat, rd_nat, List.getD_eq_getElem?_getD, List.getElem?_take, if_pos h, ← List.getD_eq_getElem?_getD]
theorem rd_ext {a b : List Int} (hl : a.length = b.length) (h : ∀ j : Nat, j < a.length → rd a (j : Int) = rd b (j : Int)) : a = b := by
  refine List.ext_getElem hl fun j h1 h2 => ?_
  have := h j h1
  rw [rd_nat, rd_nat, List.getD_eq_getElem?_getD, List.getD_eq_getElem?_getD, List.getElem?_eq_getElem h1, List.getElem?_eq_getElem h2] at this
  exact this
theorem rd_out (l : List Int) (j : Nat) (h : l.length ≤ j) : rd l (j : Int) = 0 := by
  rw [rd_nat, List.getD_eq_getElem?_getD, List.getElem?_eq_none h]; rfl
theorem rd_mem {l : List Int} {j : Nat} (h : j < l.length) : rd l (j : Int) ∈ l := by
  rw [rd_nat, List.getD_eq_getElem?_getD, List.getElem?_eq_getElem h]; exact List.getElem_mem h
theorem rd_repl (n j : Nat) : rd (List.replicate n (0 : Int)) (j : Int) = 0 := by
  rw [rd_nat, List.getD_eq_getElem?_getD, List.getElem?_replicate]; split <;> rfl
/-- When customer i, by the place, leaves the second counter (i one more than the place). -/
def lvb (l : List S32) : Nat → Int
  | 0 => 0
  | i + 1 => mx (sF l (i + 1)) (lvb l i) + (rd_T32 l (i : Int)).f1
theorem lvb_in {l : List S32} (h : BOK l) : ∀ i : Nat, i ≤ l.length → 0 ≤ lvb l i ∧ lvb l i ≤ 54 + 9 * (i : Int)
  | 0, _ => by simp [lvb]
  | i + 1, hi => by
    have a := lvb_in h i (by omega)
    have b := (h.1 i (Nat.zero_le _) (by omega)).2
    have c := sF_in h (i + 1) (by omega)
    have d := h.2
    simp only [lvb]
    unfold mx
    split <;> omega
/-- What LeavesBoth answers. -/
def LVB (l : List S32) (r : List Int) : Prop := (BOK l ∧ r.length = l.length ∧ ∀ j : Nat, j < r.length → rd r (j : Int) = lvb l (j + 1)) ∨ (¬BOK l ∧ r = [])
theorem LVB_eq {l : List S32} {a b : List Int} (h : LVB l a) (k : LVB l b) : a = b := by
  rcases h with h | h <;> rcases k with k | k
  · exact rd_ext (h.2.1.trans k.2.1.symm) (fun j hj => by rw [h.2.2 j hj, k.2.2 j (by have := h.2.1; have := k.2.1; omega)])
  · exact absurd h.1 k.1
  · exact absurd k.1 h.1
  · rw [h.2, k.2]
theorem LVB_len {l : List S32} {a : List Int} (h : LVB l a) : a.length ≤ 6 := by
  rcases h with h | h
  · have := h.1.2; omega
  · rw [h.2]; simp
theorem lvb_snoc {l : List S32} {o : List Int} (h : ∀ j : Nat, j < o.length → rd o (j : Int) = lvb l (j + 1)) : ∀ j : Nat, j < (o ++ [lvb l (o.length + 1)]).length → rd (o ++ [lvb l (o.length + 1)]) (j : Int) = lvb l (j + 1) := by
  intro j hj
  rw [rd_app]
  by_cases e : j < o.length
  · rw [if_pos e]; exact h j e
  · have ej : j = o.length := by simp at hj; omega
    rw [if_neg e, if_pos ej, ej]
theorem iBothOk_l0 (l : List S32) (hl : l.length ≤ 9223372036854775806) : ∀ d i : Nat, i + d = l.length →
    Ev (fun k => impl_BothOk.l0 k l l (l.length : Int) (i : Int)) (dec ((∀ j : Nat, i ≤ j → j < l.length → BIn (rd_T32 l (j : Int))) ∧ 1 ≤ (l.length : Int) ∧ (l.length : Int) ≤ 6)) := by
  intro d
  induction d with
  | zero =>
    intro i hi
    refine ev_succ ?_
    simp only [impl_BothOk.l0]
    refine ev_neg (by omega) ?_
    obtain rfl : i = l.length := by omega
    by_cases h : (l.length : Int) ≥ 1
    · refine ev_pos h (ev_some ?_)
      rw [dec_of]
      exact dec_congr ⟨fun e => ⟨from_end, h, e⟩, fun e => e.2.2⟩
    · exact ev_neg h (ev_some (dec_neg (fun e => h e.2.1)).symm)
  | succ d ih =>
    intro i hi
    refine ev_succ ?_
    simp only [impl_BothOk.l0]
    have hs := from_step (i := i) (n := l.length) (Q := fun j => BIn (rd_T32 l (j : Int))) (by omega)
    refine ev_pos (by omega) (ev_pos (by omega) (ev_pos (by omega) ?_))
    by_cases h1 : (rd_T32 l (i : Int)).f0 < 1
    · exact ev_pos h1 (ev_some (dec_neg (fun x => by have := (hs.1 x.1).1.1.1; omega)).symm)
    refine ev_neg h1 ?_
    by_cases h2 : (rd_T32 l (i : Int)).f0 > 9
    · exact ev_pos h2 (ev_some (dec_neg (fun x => by have := (hs.1 x.1).1.1.2; omega)).symm)
    refine ev_neg h2 ?_
    by_cases h3 : (rd_T32 l (i : Int)).f1 < 1
    · exact ev_pos h3 (ev_some (dec_neg (fun x => by have := (hs.1 x.1).1.2.1; omega)).symm)
    refine ev_neg h3 ?_
    by_cases h4 : (rd_T32 l (i : Int)).f1 > 9
    · exact ev_pos h4 (ev_some (dec_neg (fun x => by have := (hs.1 x.1).1.2.2; omega)).symm)
    refine ev_neg h4 ?_
    rw [wrap_succ (by omega)]
    refine ev_to (ih (i + 1) (by omega)) (dec_congr ?_)
    rw [hs]
    exact ⟨fun x => ⟨⟨⟨⟨by omega, by omega⟩, by omega, by omega⟩, x.1⟩, x.2⟩, fun x => ⟨x.1.2, x.2⟩⟩
theorem iBothOk_ev (l : List S32) (hl : l.length ≤ 9223372036854775806) : Ev (fun k => impl_BothOk.f k l) (dec (BOK l)) := iBothOk_l0 l hl l.length 0 (by omega)
theorem iLeavesBoth_l0 {l : List S32} (hb : BOK l) : ∀ (d : Nat) (o : List Int), o.length + d = l.length → (∀ j : Nat, j < o.length → rd o (j : Int) = lvb l (j + 1)) →
    ∃ r, Ev (fun k => impl_LeavesBoth.l0 k o (sF l o.length) (lvb l o.length) l (l.length : Int) (o.length : Int)) r ∧ LVB l r := by
  have hl := hb.2
  intro d
  induction d with
  | zero =>
    intro o ho hr
    refine ⟨o, ev_succ ?_, .inl ⟨hb, by omega, hr⟩⟩
    simp only [impl_LeavesBoth.l0]
    exact ev_neg (by omega) (Ev.now _)
  | succ d ih =>
    intro o ho hr
    have p := sF_in hb (o.length + 1) (by omega)
    have v := lvb_in hb (o.length + 1) (by omega)
    have e1 : wrap64 (sF l o.length + (rd_T32 l (o.length : Int)).f0) = sF l (o.length + 1) := wrap_id (by simp only [sF] at p; omega) (by simp only [sF] at p; omega)
    have e2 : wrap64 (mx (sF l (o.length + 1)) (lvb l o.length) + (rd_T32 l (o.length : Int)).f1) = lvb l (o.length + 1) := wrap_id (by simp only [lvb] at v; omega) (by simp only [lvb] at v; omega)
    obtain ⟨r, h1, h2⟩ := ih (o ++ [lvb l (o.length + 1)]) (by simp; omega) (lvb_snoc hr)
    refine ⟨r, ev_succ ?_, h2⟩
    simp only [impl_LeavesBoth.l0, e1, e2]
    rw [wrap_succ (by omega)]
    rw [List.length_append] at h1
    exact ev_pos (by omega) (ev_pos (by omega) (ev_pos (by omega) (ev_pos (by omega) h1)))
theorem iLeavesBoth_ev (l : List S32) (hl : l.length ≤ 9223372036854775806) : ∃ r, Ev (fun k => impl_LeavesBoth.f k l) r ∧ LVB l r := by
  unfold impl_LeavesBoth.f
  by_cases h : BOK l
  · obtain ⟨r, h1, h2⟩ := iLeavesBoth_l0 h l.length [] (by simp) (fun j hj => by simp at hj)
    exact ⟨r, Ev.bind (iBothOk_ev l hl) (ev_pos (dec_pos h) h1), h2⟩
  · exact ⟨[], Ev.bind (iBothOk_ev l hl) (ev_neg (by rw [dec_neg h]; simp) (Ev.now _)), .inr ⟨h, rfl⟩⟩
theorem l1In_eq (a b c : Int) : spec_l1In.f a b c = some (dec (b ≤ a ∧ a ≤ c)) := by
  unfold spec_l1In.f
  by_cases h : a ≥ b
  · rw [if_pos h]
    by_cases h2 : a ≤ c
    · rw [decide_eq_true h2, dec_pos ⟨h, h2⟩]
    · rw [decide_eq_false h2, dec_neg (fun x => h2 x.2)]
  · rw [if_neg h, dec_neg (fun x => h x.1)]
theorem l1In_ev (a b c : Int) : Ev (fun _ => spec_l1In.f a b c) (dec (b ≤ a ∧ a ≤ c)) := Ev.congr (fun _ => l1In_eq a b c) (Ev.now _)
theorem sBothOk_l0 (l : List S32) (hl : l.length ≤ 9223372036854775806) : ∀ d i : Nat, i + d = l.length →
    Ev (fun k => spec_BothOk.l0 k l (i : Int)) (dec ((∀ j : Nat, i ≤ j → j < l.length → BIn (rd_T32 l (j : Int))) ∧ 1 ≤ (l.length : Int) ∧ (l.length : Int) ≤ 6)) := by
  intro d
  induction d with
  | zero =>
    intro i hi
    refine ev_succ ?_
    simp only [spec_BothOk.l0]
    refine ev_neg (by omega) (Ev.bind (l1In_ev _ _ _) (ev_some (dec_congr ?_)))
    obtain rfl : i = l.length := by omega
    exact ⟨fun h => ⟨from_end, h⟩, fun h => h.2⟩
  | succ d ih =>
    intro i hi
    refine ev_succ ?_
    simp only [spec_BothOk.l0]
    have hs := from_step (i := i) (n := l.length) (Q := fun j => BIn (rd_T32 l (j : Int))) (by omega)
    refine ev_pos (by omega) (ev_pos (by omega) (Ev.bind (l1In_ev _ _ _) ?_))
    by_cases h1 : 1 ≤ (rd_T32 l (i : Int)).f0 ∧ (rd_T32 l (i : Int)).f0 ≤ 9
    · refine ev_pos (dec_pos h1) (Ev.bind (l1In_ev _ _ _) ?_)
      by_cases h2 : 1 ≤ (rd_T32 l (i : Int)).f1 ∧ (rd_T32 l (i : Int)).f1 ≤ 9
      · refine ev_pos (dec_pos h2) ?_
        rw [wrap_succ (by omega)]
        refine ev_to (ih (i + 1) (by omega)) (dec_congr ?_)
        rw [hs]
        exact ⟨fun x => ⟨⟨⟨h1, h2⟩, x.1⟩, x.2⟩, fun x => ⟨x.1.2, x.2⟩⟩
      · exact ev_neg (by rw [dec_neg h2]; simp) (ev_some (dec_neg (fun x => h2 (hs.1 x.1).1.2)).symm)
    · exact ev_neg (by rw [dec_neg h1]; simp) (ev_some (dec_neg (fun x => h1 (hs.1 x.1).1.1)).symm)
theorem sBothOk_ev (l : List S32) (hl : l.length ≤ 9223372036854775806) : Ev (fun k => spec_BothOk.f k l) (dec (BOK l)) := sBothOk_l0 l hl l.length 0 (by omega)
theorem sLeavesBoth_l0 {l : List S32} (hb : BOK l) : ∀ (d : Nat) (o : List Int), o.length + d = l.length → (∀ j : Nat, j < o.length → rd o (j : Int) = lvb l (j + 1)) →
    ∃ r, Ev (fun k => spec_LeavesBoth.l0 k l o (sF l o.length) (lvb l o.length) (o.length : Int)) r ∧ LVB l r := by
  have hl := hb.2
  intro d
  induction d with
  | zero =>
    intro o ho hr
    refine ⟨o, ev_succ ?_, .inl ⟨hb, by omega, hr⟩⟩
    simp only [spec_LeavesBoth.l0]
    exact ev_neg (by omega) (Ev.now _)
  | succ d ih =>
    intro o ho hr
    have p := sF_in hb (o.length + 1) (by omega)
    have v := lvb_in hb (o.length + 1) (by omega)
    have e1 : wrap64 (sF l o.length + (rd_T32 l (o.length : Int)).f0) = sF l (o.length + 1) := wrap_id (by simp only [sF] at p; omega) (by simp only [sF] at p; omega)
    have e2 : wrap64 (mx (sF l (o.length + 1)) (lvb l o.length) + (rd_T32 l (o.length : Int)).f1) = lvb l (o.length + 1) := wrap_id (by simp only [lvb] at v; omega) (by simp only [lvb] at v; omega)
    obtain ⟨r, h1, h2⟩ := ih (o ++ [lvb l (o.length + 1)]) (by simp; omega) (lvb_snoc hr)
    refine ⟨r, ev_succ ?_, h2⟩
    simp only [spec_LeavesBoth.l0, e1, e2]
    rw [wrap_succ (by omega)]
    rw [List.length_append] at h1
    exact ev_pos (by omega) (Ev.bind (sBothOk_ev l (by omega)) (ev_pos (dec_pos hb) (ev_pos (by omega) (ev_pos (by omega) h1))))
theorem sLeavesBoth_ev (l : List S32) (hl : l.length ≤ 9223372036854775806) : ∃ r, Ev (fun k => spec_LeavesBoth.f k l) r ∧ LVB l r := by
  unfold spec_LeavesBoth.f
  by_cases h : BOK l
  · exact sLeavesBoth_l0 h l.length [] (by simp) (fun j hj => by simp at hj)
  · refine ⟨[], ev_succ ?_, .inr ⟨h, rfl⟩⟩
    simp only [spec_LeavesBoth.l0]
    by_cases h0 : 0 < (l.length : Int)
    · exact ev_pos h0 (Ev.bind (sBothOk_ev l hl) (ev_neg (by rw [dec_neg h]; simp) (Ev.now _)))
    · exact ev_neg h0 (Ev.now _)
def cvBoth (x : S57) : S32 := ⟨x.f0, x.f1⟩
theorem toBothS_l0 (l : List S57) (hl : l.length ≤ 1048576) : ∀ (d i : Nat) (o : List S32), i + d = l.length → o.length = l.length → (∀ j : Nat, j < i → rd_T32 o (j : Int) = cvBoth (rd_T57 l (j : Int))) →
    Ev (fun k => laws_toBothS.l0 k l o (i : Int)) (l.map cvBoth) := by
  intro d
  induction d with
  | zero =>
    intro i o hi ho hr
    refine ev_succ ?_
    simp only [laws_toBothS.l0]
    refine ev_neg (by omega) (ev_some ?_)
    refine sBoth_ext (by rw [List.length_map]; exact ho) (fun j hj => ?_)
    rw [hr j (by omega), sBoth_nat, List.getD_eq_getElem?_getD, List.getElem?_map, List.getElem?_eq_getElem (by omega)]
    show cvBoth (l.getD j _) = cvBoth _
    rw [List.getD_eq_getElem?_getD, List.getElem?_eq_getElem (by omega)]; rfl
  | succ d ih =>
    intro i o hi ho hr
    refine ev_succ ?_
    simp only [laws_toBothS.l0, laws_toBoth.f, Option.bind_some]
    refine ev_pos (by omega) (ev_pos (by omega) (ev_pos (by omega) ?_))
    rw [wrap_succ (by omega)]
    refine ih (i + 1) _ (by omega) (by rw [List.length_set]; exact ho) ?_
    intro j hj
    rw [show ((i : Int).toNat) = i from rfl, sBoth_set o i j _ (by omega)]
    by_cases e : j = i
    · rw [if_pos e, e]; rfl
    · rw [if_neg e]; exact hr j (by omega)
theorem toBothS_ev (l : List S57) (hl : l.length ≤ 1048576) : Ev (fun k => laws_toBothS.f k l) (l.map cvBoth) := by
  unfold laws_toBothS.f
  refine ev_pos (by omega) (ev_pos (by omega) ?_)
  refine toBothS_l0 l hl l.length 0 _ (by omega) (by simp) (fun j hj => by omega)
theorem szBothS_eq (l : List S57) (hl : l.length ≤ 1048576) : laws_szBothS.f l 1048576 = some (1048576 - (l.length : Int)) := by
  unfold laws_szBothS.f
  rw [wrap_id (by omega) (by omega), if_neg (by omega)]
theorem szBothS_big (l : List S57) (h0 : l.length ≤ 9223372036854775807) (hl : ¬ l.length ≤ 1048576) : laws_szBothS.f l 1048576 = some (-1) := by
  unfold laws_szBothS.f
  rw [wrap_id (by omega) (by omega), if_pos (by omega)]
theorem eqBothS_l0 (a b : List S32) (hl : a.length ≤ 9223372036854775806) (hb : a.length = b.length) : ∀ (d i : Nat), i + d = a.length → (∀ j : Nat, j < i → rd_T32 a (j : Int) = rd_T32 b (j : Int)) →
    Ev (fun k => laws_eqBothS.l0 k a b (i : Int)) (dec (a = b)) := by
  intro d
  induction d with
  | zero =>
    intro i hi hr
    refine ev_succ ?_
    simp only [laws_eqBothS.l0]
    refine ev_neg (by omega) (ev_some ?_)
    exact (dec_pos (sBoth_ext hb (fun j hj => hr j (by omega)))).symm
  | succ d ih =>
    intro i hi hr
    refine ev_succ ?_
    simp only [laws_eqBothS.l0, laws_eqBoth.f]
    refine ev_pos (by omega) (ev_pos (by omega) (ev_pos (by omega) ?_))
    by_cases h : (rd_T32 a (i : Int)).f0 = (rd_T32 b (i : Int)).f0
    · by_cases h2 : (rd_T32 a (i : Int)).f1 = (rd_T32 b (i : Int)).f1
      · rw [if_pos h, if_pos h2]
        simp only [Option.bind_some]
        refine ev_pos (by simp) ?_
        rw [wrap_succ (by omega)]
        refine ih (i + 1) (by omega) ?_
        intro j hj
        by_cases e : j = i
        · rw [e]
          cases ha : rd_T32 a (i : Int); cases hb' : rd_T32 b (i : Int)
          rw [ha, hb'] at h h2
          simp only at h h2
          rw [h, h2]
        · exact hr j (by omega)
      · rw [if_pos h, if_neg h2]
        simp only [Option.bind_some]
        refine ev_neg (by simp) (ev_some (dec_neg ?_).symm)
        intro e; exact h2 (by rw [e])
    · rw [if_neg h]
      simp only [Option.bind_some]
      refine ev_neg (by simp) (ev_some (dec_neg ?_).symm)
      intro e; exact h (by rw [e])
theorem eqBothS_ev (a b : List S32) (hl : a.length ≤ 9223372036854775806) : Ev (fun k => laws_eqBothS.f k a b) (dec (a = b)) := by
  unfold laws_eqBothS.f
  by_cases h : a.length = b.length
  · refine ev_pos (by omega) ?_
    exact eqBothS_l0 a b hl h a.length 0 (by omega) (fun j hj => by omega)
  · refine ev_neg (by omega) (ev_some (dec_neg ?_).symm)
    intro e; exact h (by rw [e])
/-- The mark's numbers. -/
def MKBoth (l o : List S32) : Prop := o.length = l.length ∧ ∀ j : Nat, j < l.length → rd_T32 o (j : Int) = ⟨1 + 2 * (j : Int), 2 + 2 * (j : Int)⟩
theorem markBothS_l0 (l : List S32) (hl : l.length ≤ 4611686018427387000) : ∀ (d i : Nat) (o : List S32), i + d = l.length → o.length = l.length → (∀ j : Nat, j < i → rd_T32 o (j : Int) = ⟨1 + 2 * (j : Int), 2 + 2 * (j : Int)⟩) →
    ∃ q, MKBoth l q ∧ Ev (fun k => laws_markBothS.l0 k o (1 + 2 * (i : Int)) (i : Int)) (1 + 2 * (l.length : Int), q) := by
  intro d
  induction d with
  | zero =>
    intro i o hi ho hr
    refine ⟨o, ⟨ho, fun j hj => hr j (by omega)⟩, ev_succ ?_⟩
    simp only [laws_markBothS.l0]
    refine ev_neg (by omega) (ev_some ?_)
    rw [show (i : Int) = (l.length : Int) by omega]
  | succ d ih =>
    intro i o hi ho hr
    have e1 : wrap64 (1 + 2 * (i : Int) + 1) = 2 + 2 * (i : Int) := by rw [wrap_id (by omega) (by omega)]; omega
    have e2 : wrap64 (2 + 2 * (i : Int) + 1) = 1 + 2 * ((i + 1 : Nat) : Int) := by rw [wrap_id (by omega) (by omega)]; omega
    obtain ⟨q, hq, he⟩ := ih (i + 1) ((o.set i ⟨1 + 2 * (i : Int), (rd_T32 o (i : Int)).f1⟩).set i ⟨(rd_T32 (o.set i ⟨1 + 2 * (i : Int), (rd_T32 o (i : Int)).f1⟩) (i : Int)).f0, 2 + 2 * (i : Int)⟩) (by omega) (by rw [List.length_set, List.length_set]; exact ho) (by
      intro j hj
      rw [sBoth_set _ i j _ (by rw [List.length_set]; omega)]
      by_cases e : j = i
      · rw [if_pos e, sBoth_set _ i i _ (by omega), if_pos rfl, e]
      · rw [if_neg e, sBoth_set _ i j _ (by omega), if_neg e]; exact hr j (by omega))
    refine ⟨q, hq, ev_succ ?_⟩
    simp only [laws_markBothS.l0, Option.bind_some, e1, e2]
    refine ev_pos (by omega) (ev_pos (by omega) ?_)
    rw [wrap_succ (by omega)]
    exact he
theorem markBothS_ev (l : List S32) (hl : l.length ≤ 4611686018427387000) : ∃ q, MKBoth l q ∧ Ev (fun k => laws_markBothS.f k l 1) (1 + 2 * (l.length : Int), q) :=
  markBothS_l0 l hl l.length 0 l (by omega) rfl (fun j hj => by omega)
theorem eqIntS_l0 (a b : List Int) (hl : a.length ≤ 9223372036854775806) (hb : a.length = b.length) : ∀ (d i : Nat), i + d = a.length → (∀ j : Nat, j < i → rd a (j : Int) = rd b (j : Int)) →
    Ev (fun k => laws_eqIntS.l0 k a b (i : Int)) (dec (a = b)) := by
  intro d
  induction d with
  | zero =>
    intro i hi hr
    refine ev_succ ?_
    simp only [laws_eqIntS.l0]
    refine ev_neg (by omega) (ev_some ?_)
    exact (dec_pos (rd_ext hb (fun j hj => hr j (by omega)))).symm
  | succ d ih =>
    intro i hi hr
    refine ev_succ ?_
    simp only [laws_eqIntS.l0]
    refine ev_pos (by omega) (ev_pos (by omega) (ev_pos (by omega) ?_))
    by_cases h : rd a (i : Int) = rd b (i : Int)
    · refine ev_pos h ?_
      rw [wrap_succ (by omega)]
      refine ih (i + 1) (by omega) ?_
      intro j hj
      by_cases e : j = i
      · rw [e]; exact h
      · exact hr j (by omega)
    · refine ev_neg h (ev_some (dec_neg ?_).symm)
      intro e; exact h (by rw [e])
theorem eqIntS_ev (a b : List Int) (hl : a.length ≤ 9223372036854775806) : Ev (fun k => laws_eqIntS.f k a b) (dec (a = b)) := by
  unfold laws_eqIntS.f
  by_cases h : a.length = b.length
  · refine ev_pos (by omega) ?_
    exact eqIntS_l0 a b hl h a.length 0 (by omega) (fun j hj => by omega)
  · refine ev_neg (by omega) (ev_some (dec_neg ?_).symm)
    intro e; exact h (by rw [e])
def MKI (l o : List Int) : Prop := o.length = l.length ∧ ∀ j : Nat, j < l.length → rd o (j : Int) = 1 + (j : Int)
theorem markIntS_l0 (l : List Int) (hl : l.length ≤ 4611686018427387000) : ∀ (d i : Nat) (o : List Int), i + d = l.length → o.length = l.length → (∀ j : Nat, j < i → rd o (j : Int) = 1 + (j : Int)) →
    ∃ q, MKI l q ∧ Ev (fun k => laws_markIntS.l0 k o (1 + (i : Int)) (i : Int)) (1 + (l.length : Int), q) := by
  intro d
  induction d with
  | zero =>
    intro i o hi ho hr
    refine ⟨o, ⟨ho, fun j hj => hr j (by omega)⟩, ev_succ ?_⟩
    simp only [laws_markIntS.l0]
    refine ev_neg (by omega) (ev_some ?_)
    rw [show (i : Int) = (l.length : Int) by omega]
  | succ d ih =>
    intro i o hi ho hr
    have e1 : wrap64 (1 + (i : Int) + 1) = 1 + ((i + 1 : Nat) : Int) := by rw [wrap_id (by omega) (by omega)]; omega
    obtain ⟨q, hq, he⟩ := ih (i + 1) (o.set i (1 + (i : Int))) (by omega) (by rw [List.length_set]; exact ho) (by
      intro j hj
      rw [rd_set _ i j _ (by omega)]
      by_cases e : j = i
      · rw [if_pos e, e]
      · rw [if_neg e]; exact hr j (by omega))
    refine ⟨q, hq, ev_succ ?_⟩
    simp only [laws_markIntS.l0, e1]
    refine ev_pos (by omega) (ev_pos (by omega) ?_)
    rw [wrap_succ (by omega)]
    exact he
theorem markIntS_ev (l : List Int) (hl : l.length ≤ 4611686018427387000) : ∃ q, MKI l q ∧ Ev (fun k => laws_markIntS.f k l 1) (1 + (l.length : Int), q) :=
  markIntS_l0 l hl l.length 0 l (by omega) rfl (fun j hj => by omega)
theorem heldIntS_l0 (l o : List Int) (hl : l.length ≤ 4611686018427387000) (hm : MKI l o) : ∀ (d i : Nat), i + d = l.length → Ev (fun k => laws_heldIntS.l0 k o (1 + (i : Int)) (i : Int)) (1 + (l.length : Int)) := by
  intro d
  induction d with
  | zero =>
    intro i hi
    refine ev_succ ?_
    simp only [laws_heldIntS.l0]
    refine ev_neg (by have := hm.1; omega) (ev_some ?_)
    rw [show (i : Int) = (l.length : Int) by omega]
  | succ d ih =>
    intro i hi
    have e1 : wrap64 (1 + (i : Int) + 1) = 1 + ((i + 1 : Nat) : Int) := by rw [wrap_id (by omega) (by omega)]; omega
    have hi2 := hm.2 i (by omega)
    refine ev_succ ?_
    simp only [laws_heldIntS.l0, e1]
    refine ev_pos (by have := hm.1; omega) (ev_pos (by omega) ?_)
    rw [hi2]
    refine ev_pos rfl ?_
    rw [wrap_succ (by omega)]
    exact ih (i + 1) (by omega)
theorem heldIntS_ev (l o : List Int) (hl : l.length ≤ 4611686018427387000) (hm : MKI l o) : Ev (fun k => laws_heldIntS.f k o 1) (1 + (l.length : Int)) :=
  heldIntS_l0 l o hl hm l.length 0 (by omega)
theorem FnExactLeavesBoth_j0 (l0 : List S57) (h : l0.length ≤ 1048576) (r : List Int) (hr : LVB (l0.map cvBoth) r) : Ev (fun k => laws_FnExactLeavesBoth.j0 k l0 r r false) true := by
  have e : (l0.map cvBoth).length ≤ 9223372036854775806 := by rw [List.length_map]; omega
  have hl := LVB_len hr
  obtain ⟨q, hq, hm⟩ := markIntS_ev r (by omega)
  obtain ⟨b, hb, hb2⟩ := iLeavesBoth_ev _ e
  obtain rfl := LVB_eq hr hb2
  have hh := heldIntS_ev r q (by omega) hq
  refine ev_succ ?_
  simp only [laws_FnExactLeavesBoth.j0]
  refine ev_neg (by simp) (Ev.bind hm (Ev.bind hh (ev_neg (by omega) (ev_pos rfl (Ev.bind (toBothS_ev l0 h) (Ev.bind hb (Ev.bind (eqIntS_ev _ _ (by omega)) (ev_pos (dec_pos rfl) (Ev.bind hh (ev_neg (by omega) (ev_pos rfl (Ev.now _))))))))))))
theorem FnExactLeavesBoth (l0 : List S57) (h0 : l0.length ≤ 9223372036854775807) : ∃ k, laws_FnExactLeavesBoth.f k l0 = some true := by
  refine Ev.rounds ?_
  unfold laws_FnExactLeavesBoth.f
  by_cases h : l0.length ≤ 1048576
  · have e : (l0.map cvBoth).length ≤ 4611686018427387000 := by rw [List.length_map]; omega
    obtain ⟨a, ha, ha2⟩ := sLeavesBoth_ev (l0.map cvBoth) (by omega)
    obtain ⟨b, hb, hb2⟩ := iLeavesBoth_ev (l0.map cvBoth) (by omega)
    obtain rfl := LVB_eq ha2 hb2
    obtain ⟨q, hq, hm⟩ := markBothS_ev (l0.map cvBoth) e
    have hl := LVB_len ha2
    rw [szBothS_eq l0 h]
    refine Ev.bind (Ev.now _) (ev_neg (by omega) (Ev.bind (toBothS_ev l0 h) (Ev.bind ha (Ev.bind (toBothS_ev l0 h) (Ev.bind hb (Ev.bind (eqIntS_ev _ _ (by omega)) (ev_pos (dec_pos rfl) (Ev.bind (toBothS_ev l0 h) (Ev.bind (eqBothS_ev _ _ (by omega)) (ev_pos (dec_pos rfl) (Ev.bind hm ?_)))))))))))
    refine ev_neg (by simp only; omega) (Ev.bind (eqIntS_ev _ _ (by omega)) ?_)
    rw [dec_pos rfl]
    exact FnExactLeavesBoth_j0 l0 h a ha2
  · rw [szBothS_big l0 h0 h]
    exact Ev.bind (Ev.now _) (ev_pos (by omega) (Ev.now _))
end Go.Proofs.Ytbmhkhdmedemaaa.Pure
