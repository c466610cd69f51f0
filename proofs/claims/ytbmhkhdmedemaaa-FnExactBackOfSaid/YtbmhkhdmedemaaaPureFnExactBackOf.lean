/- The law FnExactBackOf holds for every input; nothing is assumed. -/
import Derived.Test.YtbmhkhdmedemaaaPFnExactBackOfx3
namespace Go.Proofs.Ytbmhkhdmedemaaa.Pure
open Go.RowKit Go.Proofs.Ytbmhkhdmedemaaa.PFnExactBackOf Go.Proofs.YtbmhkhdmedemaaaW.PrintWords Go.Proofs.YtbmhkhdmedemaaaW.PrintLast Go.Proofs.YtbmhkhdmedemaaaW.PrintMore
set_option linter.unusedVariables false
set_option linter.unusedSimpArgs false
theorem ev_succ {α : Type} {g : Nat → Option α} {r : α} (h : Ev (fun k => g (k + 1)) r) : Ev g r := Ev.step (fun _ => rfl) h
theorem ev_pos {α : Type} {c : Prop} [Decidable c] {f g : Nat → Option α} {r : α} (h : c) (k : Ev f r) : Ev (fun n => if c then f n else g n) r := Ev.congr (fun _ => if_pos h) k
theorem ev_neg {α : Type} {c : Prop} [Decidable c] {f g : Nat → Option α} {r : α} (h : ¬c) (k : Ev g r) : Ev (fun n => if c then f n else g n) r := Ev.congr (fun _ => if_neg h) k
theorem ev_some {α : Type} {x r : α} (h : x = r) : Ev (fun _ => some x) r := h ▸ Ev.now x
theorem ev_to {α : Type} {g : Nat → Option α} {a r : α} (h : Ev g a) (e : a = r) : Ev g r := e ▸ h
/-- Whether P. -/
noncomputable def dec (P : Prop) : Bool := @decide P (Classical.propDecidable P)
theorem dec_iff {P : Prop} : dec P = true ↔ P := @decide_eq_true_iff P (Classical.propDecidable P)
theorem dec_pos {P : Prop} (h : P) : dec P = true := dec_iff.2 h
theorem dec_neg {P : Prop} (h : ¬P) : dec P = false := by
  cases e : dec P
  · rfl
  · exact absurd (dec_iff.1 e) h
theorem dec_congr {P Q : Prop} (h : P ↔ Q) : dec P = dec Q := by rw [propext h]
theorem dec_of {P : Prop} [Decidable P] : decide P = dec P := by
  by_cases h : P
  · rw [dec_pos h, decide_eq_true h]
  · rw [dec_neg h, decide_eq_false h]
theorem dec_bool {b : Bool} : b = dec (b = true) := by
  cases b
  · exact (dec_neg (by simp)).symm
  · exact (dec_pos rfl).symm
/-- From i on: at i, and from i + 1 on. -/
theorem from_step {i n : Nat} {Q : Nat → Prop} (h : i < n) : (∀ j, i ≤ j → j < n → Q j) ↔ Q i ∧ ∀ j, i + 1 ≤ j → j < n → Q j := by
  constructor
  · exact fun a => ⟨a i (Nat.le_refl _) h, fun j h1 h2 => a j (by omega) h2⟩
  · intro a j h1 h2
    by_cases e : j = i
    · exact e ▸ a.1
    · exact a.2 j (by omega) h2
theorem from_end {n : Nat} {Q : Nat → Prop} : ∀ j, n ≤ j → j < n → Q j := fun j h1 h2 => by omega
theorem wrap_id {x : Int} (h0 : -9223372036854775808 ≤ x) (h1 : x ≤ 9223372036854775807) : wrap64 x = x := by unfold wrap64; omega
theorem wrap_succ {i : Nat} (h : i ≤ 9223372036854775806) : wrap64 ((i : Int) + 1) = ((i + 1 : Nat) : Int) := by unfold wrap64; omega
theorem wrap_pred {i : Nat} (h : i ≤ 9223372036854775806) : wrap64 ((i : Int) - 1) = (i : Int) - 1 := by unfold wrap64; omega
/-- The bounds of a number of the kind int. -/
def I64 (x : Int) : Prop := -9223372036854775808 ≤ x ∧ x ≤ 9223372036854775807
theorem i64_wf {x : Int} (h : (Lit.int .i64 x).wf = true) : I64 x := by
  have h' : (decide (IntKind.i64.min ≤ x) && decide (x ≤ IntKind.i64.max)) = true := h
  have a : IntKind.i64.min = -9223372036854775808 := by decide
  have b : IntKind.i64.max = 9223372036854775807 := by decide
  rw [a, b] at h'
  simpa [I64] using h'
theorem sBoth_nat (l : List S32) (i : Nat) : rd_T32 l (i : Int) = l.getD i z32 := rfl
theorem sBoth_get {l : List S32} {i : Nat} (h : i < l.length) : rd_T32 l (i : Int) = l[i] := by
  rw [sBoth_nat, List.getD_eq_getElem?_getD, List.getElem?_eq_getElem h]; rfl
theorem sBoth_set (l : List S32) (i j : Nat) (v : S32) (h : i < l.length) : rd_T32 (l.set i v) (j : Int) = if j = i then v else rd_T32 l (j : Int) := by
  rw [sBoth_nat, sBoth_nat, List.getD_eq_getElem?_getD, List.getElem?_set]
  by_cases e : i = j
  · subst e; rw [if_pos rfl, if_pos h, if_pos rfl]; rfl
  · rw [if_neg e, if_neg (fun x => e x.symm), ← List.getD_eq_getElem?_getD]
theorem sBoth_app (l : List S32) (v : S32) (j : Nat) : rd_T32 (l ++ [v]) (j : Int) = if j < l.length then rd_T32 l (j : Int) else if j = l.length then v else z32 := by
  rw [sBoth_nat, sBoth_nat, List.getD_eq_getElem?_getD, List.getD_eq_getElem?_getD, List.getElem?_append]
  by_cases h : j < l.length
  · rw [if_pos h, if_pos h]
  · rw [if_neg h, if_neg h]
    by_cases e : j = l.length
    · subst e; rw [if_pos rfl]; simp
    · rw [if_neg e, List.getElem?_eq_none (by simp; omega)]; rfl
theorem sBoth_take (l : List S32) (n j : Nat) (h : j < n) : rd_T32 (l.take n) (j : Int) = rd_T32 l (j : Int) := by
  rw [sBoth_nat, sBoth_nat, List.getD_eq_getElem?_getD, List.getElem?_take, if_pos h, ← List.getD_eq_getElem?_getD]
theorem sBoth_drop (l : List S32) (n j : Nat) : rd_T32 (l.drop n) (j : Int) = rd_T32 l ((n + j : Nat) : Int) := by
  rw [sBoth_nat, sBoth_nat, List.getD_eq_getElem?_getD, List.getElem?_drop, ← List.getD_eq_getElem?_getD]
theorem sBoth_ext {a b : List S32} (hl : a.length = b.length) (h : ∀ j : Nat, j < a.length → rd_T32 a (j : Int) = rd_T32 b (j : Int)) : a = b := by
  refine List.ext_getElem hl fun j h1 h2 => ?_
  have := h j h1
  rw [sBoth_get h1, sBoth_get h2] at this
  exact this
def BIn (x : S32) : Prop := (1 ≤ x.f0 ∧ x.f0 ≤ 9) ∧ 1 ≤ x.f1 ∧ x.f1 ≤ 9
/-- Customers of two counters. -/
def BOK (l : List S32) : Prop := (∀ j : Nat, 0 ≤ j → j < l.length → BIn (rd_T32 l (j : Int))) ∧ 1 ≤ (l.length : Int) ∧ (l.length : Int) ≤ 6
/-- From the last one to the first one, the needs exchanged. -/
def REVB (l o : List S32) : Prop := ∀ j : Nat, j < o.length → rd_T32 o (j : Int) = ⟨(rd_T32 l ((l.length - 1 - j : Nat) : Int)).f1, (rd_T32 l ((l.length - 1 - j : Nat) : Int)).f0⟩
theorem revB_eq {l a b : List S32} (ha : a.length = l.length) (hb : b.length = l.length) (h : REVB l a) (k : REVB l b) : a = b :=
  sBoth_ext (ha.trans hb.symm) (fun j hj => by rw [h j hj, k j (by omega)])
theorem revB_ok {l o : List S32} (hl : o.length = l.length) (h : REVB l o) (b : BOK l) : BOK o := by
  refine ⟨fun j _ hj => ?_, by rw [hl]; exact b.2⟩
  have e := b.1 (l.length - 1 - j) (Nat.zero_le _) (by omega)
  rw [h j hj]
  exact ⟨e.2, e.1⟩
theorem revB_back {l o q : List S32} (hl : o.length = l.length) (hq : q.length = o.length) (h : REVB l o) (k : REVB o q) : q = l := by
  refine sBoth_ext (by omega) (fun j hj => ?_)
  rw [k j hj, h _ (by omega), show l.length - 1 - (o.length - 1 - j) = j by omega]
theorem revB_snoc {l o : List S32} (d : Nat) (ho : o.length + (d + 1) = l.length) (h : REVB l o) : REVB l (o ++ [⟨(rd_T32 l (d : Int)).f1, (rd_T32 l (d : Int)).f0⟩]) := by
  intro j hj
  rw [sBoth_app]
  by_cases e : j < o.length
  · rw [if_pos e]; exact h j e
  · have ej : j = o.length := by simp at hj; omega
    rw [if_neg e, if_pos ej, show l.length - 1 - j = d by omega]
/-- What BackOf answers. -/
def BK (l r : List S32) : Prop := (BOK l ∧ r.length = l.length ∧ REVB l r) ∨ (¬BOK l ∧ r = [])
theorem BK_eq {l a b : List S32} (h : BK l a) (k : BK l b) : a = b := by
  rcases h with h | h <;> rcases k with k | k
  · exact revB_eq h.2.1 k.2.1 h.2.2 k.2.2
  · exact absurd h.1 k.1
  · exact absurd k.1 h.1
  · rw [h.2, k.2]
theorem BK_len {l a : List S32} (h : BK l a) : a.length ≤ 6 := by
  rcases h with h | h
  · have := h.1.2; omega
  · rw [h.2]; simp
theorem iBothOk_l0 (l : List S32) (hl : l.length ≤ 9223372036854775806) : ∀ d i : Nat, i + d = l.length →
    Ev (fun k => impl_BothOk.l0 k l l (l.length : Int) (i : Int)) (dec ((∀ j : Nat, i ≤ j → j < l.length → BIn (rd_T32 l (j : Int))) ∧ 1 ≤ (l.length : Int) ∧ (l.length : Int) ≤ 6)) := by
  intro d
  induction d with
  | zero =>
    intro i hi
    refine ev_succ ?_
    simp only [impl_BothOk.l0]
    refine ev_neg (by omega) ?_
    obtain rfl : i = l.length := by omega
    by_cases h : (l.length : Int) ≥ 1
    · refine ev_pos h (ev_some ?_)
      rw [dec_of]
      exact dec_congr ⟨fun e => ⟨from_end, h, e⟩, fun e => e.2.2⟩
    · exact ev_neg h (ev_some (dec_neg (fun e => h e.2.1)).symm)
  | succ d ih =>
    intro i hi
    refine ev_succ ?_
    simp only [impl_BothOk.l0]
    have hs := from_step (i := i) (n := l.length) (Q := fun j => BIn (rd_T32 l (j : Int))) (by omega)
    refine ev_pos (by omega) (ev_pos (by omega) (ev_pos (by omega) ?_))
    by_cases h1 : (rd_T32 l (i : Int)).f0 < 1
    · exact ev_pos h1 (ev_some (dec_neg (fun x => by have := (hs.1 x.1).1.1.1; omega)).symm)
    refine ev_neg h1 ?_
    by_cases h2 : (rd_T32 l (i : Int)).f0 > 9
    · exact ev_pos h2 (ev_some (dec_neg (fun x => by have := (hs.1 x.1).1.1.2; omega)).symm)
    refine ev_neg h2 ?_
    by_cases h3 : (rd_T32 l (i : Int)).f1 < 1
    · exact ev_pos h3 (ev_some (dec_neg (fun x => by have := (hs.1 x.1).1.2.1; omega)).symm)
    refine ev_neg h3 ?_
    by_cases h4 : (rd_T32 l (i : Int)).f1 > 9
    · exact ev_pos h4 (ev_some (dec_neg (fun x => by have := (hs.1 x.1).1.2.2; omega)).symm)
    refine ev_neg h4 ?_
    rw [wrap_succ (by omega)]
    refine ev_to (ih (i + 1) (by omega)) (dec_congr ?_)
    rw [hs]
    exact ⟨fun x => ⟨⟨⟨⟨by omega, by omega⟩, by omega, by omega⟩, x.1⟩, x.2⟩, fun x => ⟨x.1.2, x.2⟩⟩
theorem iBothOk_ev (l : List S32) (hl : l.length ≤ 9223372036854775806) : Ev (fun k => impl_BothOk.f k l) (dec (BOK l)) := iBothOk_l0 l hl l.length 0 (by omega)
theorem iBackOf_l0 {l : List S32} (hb : BOK l) : ∀ (d : Nat) (o : List S32), o.length + d = l.length → REVB l o → ∃ r, Ev (fun k => impl_BackOf.l0 k l o ((d : Int) - 1)) r ∧ BK l r := by
  have hl := hb.2
  intro d
  induction d with
  | zero =>
    intro o ho hr
    refine ⟨o, ev_succ ?_, .inl ⟨hb, by omega, hr⟩⟩
    simp only [impl_BackOf.l0]
    exact ev_neg (by omega) (Ev.now _)
  | succ d ih =>
    intro o ho hr
    obtain ⟨r, h1, h2⟩ := ih _ (by simp; omega) (revB_snoc d ho hr)
    refine ⟨r, ev_succ ?_, h2⟩
    simp only [impl_BackOf.l0]
    rw [show ((d + 1 : Nat) : Int) - 1 = (d : Int) by omega, wrap_pred (by omega)]
    exact ev_pos (by omega) (ev_pos (by omega) (ev_pos (by omega) (ev_pos (by omega) h1)))
theorem iBackOf_ev (l : List S32) (hl : l.length ≤ 9223372036854775806) : ∃ r, Ev (fun k => impl_BackOf.f k l) r ∧ BK l r := by
  unfold impl_BackOf.f
  by_cases h : BOK l
  · obtain ⟨r, h1, h2⟩ := iBackOf_l0 h l.length [] (by simp) (fun j hj => by simp at hj)
    refine ⟨r, Ev.bind (iBothOk_ev l hl) (ev_pos (dec_pos h) ?_), h2⟩
    rw [wrap_id (by omega) (by omega)]
    exact h1
  · exact ⟨[], Ev.bind (iBothOk_ev l hl) (ev_neg (by rw [dec_neg h]; simp) (Ev.now _)), .inr ⟨h, rfl⟩⟩
theorem l1In_eq (a b c : Int) : spec_l1In.f a b c = some (dec (b ≤ a ∧ a ≤ c)) := by
  unfold spec_l1In.f
  by_cases h : a ≥ b
  · rw [if_pos h]
    by_cases h2 : a ≤ c
    · rw [decide_eq_true h2, dec_pos ⟨h, h2⟩]
    · rw [decide_eq_false h2, dec_neg (fun x => h2 x.2)]
  · rw [if_neg h, dec_neg (fun x => h x.1)]
theorem l1In_ev (a b c : Int) : Ev (fun _ => spec_l1In.f a b c) (dec (b ≤ a ∧ a ≤ c)) := Ev.congr (fun _ => l1In_eq a b c) (Ev.now _)
theorem sBothOk_l0 (l : List S32) (hl : l.length ≤ 9223372036854775806) : ∀ d i : Nat, i + d = l.length →
    Ev (fun k => spec_BothOk.l0 k l (i : Int)) (dec ((∀ j : Nat, i ≤ j → j < l.length → BIn (rd_T32 l (j : Int))) ∧ 1 ≤ (l.length : Int) ∧ (l.length : Int) ≤ 6)) := by
  intro d
  induction d with
  | zero =>
    intro i hi
    refine ev_succ ?_
    simp only [spec_BothOk.l0]
    refine ev_neg (by omega) (Ev.bind (l1In_ev _ _ _) (ev_some (dec_congr ?_)))
    obtain rfl : i = l.length := by omega
    exact ⟨fun h => ⟨from_end, h⟩, fun h => h.2⟩
  | succ d ih =>
    intro i hi
    refine ev_succ ?_
    simp only [spec_BothOk.l0]
    have hs := from_step (i := i) (n := l.length) (Q := fun j => BIn (rd_T32 l (j : Int))) (by omega)
    refine ev_pos (by omega) (ev_pos (by omega) (Ev.bind (l1In_ev _ _ _) ?_))
    by_cases h1 : 1 ≤ (rd_T32 l (i : Int)).f0 ∧ (rd_T32 l (i : Int)).f0 ≤ 9
    · refine ev_pos (dec_pos h1) (Ev.bind (l1In_ev _ _ _) ?_)
      by_cases h2 : 1 ≤ (rd_T32 l (i : Int)).f1 ∧ (rd_T32 l (i : Int)).f1 ≤ 9
      · refine ev_pos (dec_pos h2) ?_
        rw [wrap_succ (by omega)]
        refine ev_to (ih (i + 1) (by omega)) (dec_congr ?_)
        rw [hs]
        exact ⟨fun x => ⟨⟨⟨h1, h2⟩, x.1⟩, x.2⟩, fun x => ⟨x.1.2, x.2⟩⟩
      · exact ev_neg (by rw [dec_neg h2]; simp) (ev_some (dec_neg (fun x => h2 (hs.1 x.1).1.2)).symm)
    · exact ev_neg (by rw [dec_neg h1]; simp) (ev_some (dec_neg (fun x => h1 (hs.1 x.1).1.1)).symm)
theorem sBothOk_ev (l : List S32) (hl : l.length ≤ 9223372036854775806) : Ev (fun k => spec_BothOk.f k l) (dec (BOK l)) := sBothOk_l0 l hl l.length 0 (by omega)
theorem sBackOf_l0 {l : List S32} (hb : BOK l) : ∀ (d : Nat) (o : List S32), o.length + d = l.length → REVB l o → ∃ r, Ev (fun k => spec_BackOf.l0 k l o ((d : Int) - 1)) r ∧ BK l r := by
  have hl := hb.2
  intro d
  induction d with
  | zero =>
    intro o ho hr
    refine ⟨o, ev_succ ?_, .inl ⟨hb, by omega, hr⟩⟩
    simp only [spec_BackOf.l0]
    exact ev_neg (by omega) (Ev.now _)
  | succ d ih =>
    intro o ho hr
    obtain ⟨r, h1, h2⟩ := ih _ (by simp; omega) (revB_snoc d ho hr)
    refine ⟨r, ev_succ ?_, h2⟩
    simp only [spec_BackOf.l0]
    rw [show ((d + 1 : Nat) : Int) - 1 = (d : Int) by omega, wrap_pred (by omega)]
    exact ev_pos (by omega) (Ev.bind (sBothOk_ev l (by omega)) (ev_pos (dec_pos hb) (ev_pos (by omega) (ev_pos (by omega) (ev_pos (by omega) h1)))))
theorem sBackOf_ev (l : List S32) (hl : l.length ≤ 9223372036854775806) : ∃ r, Ev (fun k => spec_BackOf.f k l) r ∧ BK l r := by
  unfold spec_BackOf.f
  rw [wrap_id (by omega) (by omega)]
  by_cases h : BOK l
  · exact sBackOf_l0 h l.length [] (by simp) (fun j hj => by simp at hj)
  · refine ⟨[], ev_succ ?_, .inr ⟨h, rfl⟩⟩
    simp only [spec_BackOf.l0]
    by_cases h0 : (l.length : Int) - 1 ≥ 0
    · exact ev_pos h0 (Ev.bind (sBothOk_ev l hl) (ev_neg (by rw [dec_neg h]; simp) (Ev.now _)))
    · exact ev_neg h0 (Ev.now _)
def cvBoth (x : S57) : S32 := ⟨x.f0, x.f1⟩
theorem toBothS_l0 (l : List S57) (hl : l.length ≤ 1048576) : ∀ (d i : Nat) (o : List S32), i + d = l.length → o.length = l.length → (∀ j : Nat, j < i → rd_T32 o (j : Int) = cvBoth (rd_T57 l (j : Int))) →
    Ev (fun k => laws_toBothS.l0 k l o (i : Int)) (l.map cvBoth) := by
  intro d
  induction d with
  | zero =>
    intro i o hi ho hr
    refine ev_succ ?_
    simp only [laws_toBothS.l0]
    refine ev_neg (by omega) (ev_some ?_)
    refine sBoth_ext (by rw [List.length_map]; exact ho) (fun j hj => ?_)
    rw [hr j (by omega), sBoth_nat, List.getD_eq_getElem?_getD, List.getElem?_map, List.getElem?_eq_getElem (by omega)]
    show cvBoth (l.getD j _) = cvBoth _
    rw [List.getD_eq_getElem?_getD, List.getElem?_eq_getElem (by omega)]; rfl
  | succ d ih =>
    intro i o hi ho hr
    refine ev_succ ?_
    simp only [laws_toBothS.l0, laws_toBoth.f, Option.bind_some]
    refine ev_pos (by omega) (ev_pos (by omega) (ev_pos (by omega) ?_))
    rw [wrap_succ (by omega)]
    refine ih (i + 1) _ (by omega) (by rw [List.length_set]; exact ho) ?_
    intro j hj
    rw [show ((i : Int).toNat) = i from rfl, sBoth_set o i j _ (by omega)]
    by_cases e : j = i
    · rw [if_pos e, e]; rfl
    · rw [if_neg e]; exact hr j (by omega)
theorem toBothS_ev (l : List S57) (hl : l.length ≤ 1048576) : Ev (fun k => laws_toBothS.f k l) (l.map cvBoth) := by
  unfold laws_toBothS.f
  refine ev_pos (by omega) (ev_pos (by omega) ?_)
  refine toBothS_l0 l hl l.length 0 _ (by omega) (by simp) (fun j hj => by omega)
theorem szBothS_eq (l : List S57) (hl : l.length ≤ 1048576) : laws_szBothS.f l 1048576 = some (1048576 - (l.length : Int)) := by
  unfold laws_szBothS.f
  rw [wrap_id (by omega) (by omega), if_neg (by omega)]
theorem szBothS_big (l : List S57) (h0 : l.length ≤ 9223372036854775807) (hl : ¬ l.length ≤ 1048576) : laws_szBothS.f l 1048576 = some (-1) := by
  unfold laws_szBothS.f
  rw [wrap_id (by omega) (by omega), if_pos (by omega)]
theorem eqBothS_l0 (a b : List S32) (hl : a.length ≤ 9223372036854775806) (hb : a.length = b.length) : ∀ (d i : Nat), i + d = a.length → (∀ j : Nat, j < i → rd_T32 a (j : Int) = rd_T32 b (j : Int)) →
    Ev (fun k => laws_eqBothS.l0 k a b (i : Int)) (dec (a = b)) := by
  intro d
  induction d with
  | zero =>
    intro i hi hr
    refine ev_succ ?_
    simp only [laws_eqBothS.l0]
    refine ev_neg (by omega) (ev_some ?_)
    exact (dec_pos (sBoth_ext hb (fun j hj => hr j (by omega)))).symm
  | succ d ih =>
    intro i hi hr
    refine ev_succ ?_
    simp only [laws_eqBothS.l0, laws_eqBoth.f]
    refine ev_pos (by omega) (ev_pos (by omega) (ev_pos (by omega) ?_))
    by_cases h : (rd_T32 a (i : Int)).f0 = (rd_T32 b (i : Int)).f0
    · by_cases h2 : (rd_T32 a (i : Int)).f1 = (rd_T32 b (i : Int)).f1
      · rw [if_pos h, if_pos h2]
        simp only [Option.bind_some]
        refine ev_pos (by simp) ?_
        rw [wrap_succ (by omega)]
        refine ih (i + 1) (by omega) ?_
        intro j hj
        by_cases e : j = i
        · rw [e]
          cases ha : rd_T32 a (i : Int); cases hb' : rd_T32 b (i : Int)
          rw [ha, hb'] at h h2
          simp only at h h2
          rw [h, h2]
        · exact hr j (by omega)
      · rw [if_pos h, if_neg h2]
        simp only [Option.bind_some]
        refine ev_neg (by simp) (ev_some (dec_neg ?_).symm)
        intro e; exact h2 (by rw [e])
    · rw [if_neg h]
      simp only [Option.bind_some]
      refine ev_neg (by simp) (ev_some (dec_neg ?_).symm)
      intro e; exact h (by rw [e])
theorem eqBothS_ev (a b : List S32) (hl : a.length ≤ 9223372036854775806) : Ev (fun k => laws_eqBothS.f k a b) (dec (a = b)) := by
  unfold laws_eqBothS.f
  by_cases h : a.length = b.length
  · refine ev_pos (by omega) ?_
    exact eqBothS_l0 a b hl h a.length 0 (by omega) (fun j hj => by omega)
  · refine ev_neg (by omega) (ev_some (dec_neg ?_).symm)
    intro e; exact h (by rw [e])
/-- The mark's numbers. -/
def MKBoth (l o : List S32) : Prop := o.length = l.length ∧ ∀ j : Nat, j < l.length → rd_T32 o (j : Int) = ⟨1 + 2 * (j : Int), 2 + 2 * (j : Int)⟩
theorem markBothS_l0 (l : List S32) (hl : l.length ≤ 4611686018427387000) : ∀ (d i : Nat) (o : List S32), i + d = l.length → o.length = l.length → (∀ j : Nat, j < i → rd_T32 o (j : Int) = ⟨1 + 2 * (j : Int), 2 + 2 * (j : Int)⟩) →
    ∃ q, MKBoth l q ∧ Ev (fun k => laws_markBothS.l0 k o (1 + 2 * (i : Int)) (i : Int)) (1 + 2 * (l.length : Int), q) := by
  intro d
  induction d with
  | zero =>
    intro i o hi ho hr
    refine ⟨o, ⟨ho, fun j hj => hr j (by omega)⟩, ev_succ ?_⟩
    simp only [laws_markBothS.l0]
    refine ev_neg (by omega) (ev_some ?_)
    rw [show (i : Int) = (l.length : Int) by omega]
  | succ d ih =>
    intro i o hi ho hr
    have e1 : wrap64 (1 + 2 * (i : Int) + 1) = 2 + 2 * (i : Int) := by rw [wrap_id (by omega) (by omega)]; omega
    have e2 : wrap64 (2 + 2 * (i : Int) + 1) = 1 + 2 * ((i + 1 : Nat) : Int) := by rw [wrap_id (by omega) (by omega)]; omega
    obtain ⟨q, hq, he⟩ := ih (i + 1) ((o.set i ⟨1 + 2 * (i : Int), (rd_T32 o (i : Int)).f1⟩).set i ⟨(rd_T32 (o.set i ⟨1 + 2 * (i : Int), (rd_T32 o (i : Int)).f1⟩) (i : Int)).f0, 2 + 2 * (i : Int)⟩) (by omega) (by rw [List.length_set, List.length_set]; exact ho) (by
      intro j hj
      rw [sBoth_set _ i j _ (by rw [List.length_set]; omega)]
      by_cases e : j = i
      · rw [if_pos e, sBoth_set _ i i _ (by omega), if_pos rfl, e]
      · rw [if_neg e, sBoth_set _ i j _ (by omega), if_neg e]; exact hr j (by omega))
    refine ⟨q, hq, ev_succ ?_⟩
    simp only [laws_markBothS.l0, Option.bind_some, e1, e2]
    refine ev_pos (by omega) (ev_pos (by omega) ?_)
    rw [wrap_succ (by omega)]
    exact he
theorem markBothS_ev (l : List S32) (hl : l.length ≤ 4611686018427387000) : ∃ q, MKBoth l q ∧ Ev (fun k => laws_markBothS.f k l 1) (1 + 2 * (l.length : Int), q) :=
  markBothS_l0 l hl l.length 0 l (by omega) rfl (fun j hj => by omega)
theorem heldBothS_l0 (l o : List S32) (hl : l.length ≤ 4611686018427387000) (hm : MKBoth l o) : ∀ (d i : Nat), i + d = l.length → Ev (fun k => laws_heldBothS.l0 k o (1 + 2 * (i : Int)) (i : Int)) (1 + 2 * (l.length : Int)) := by
  intro d
  induction d with
  | zero =>
    intro i hi
    refine ev_succ ?_
    simp only [laws_heldBothS.l0]
    refine ev_neg (by have := hm.1; omega) (ev_some ?_)
    rw [show (i : Int) = (l.length : Int) by omega]
  | succ d ih =>
    intro i hi
    have e1 : wrap64 (1 + 2 * (i : Int) + 1) = 2 + 2 * (i : Int) := by rw [wrap_id (by omega) (by omega)]; omega
    have e2 : wrap64 (2 + 2 * (i : Int) + 1) = 1 + 2 * ((i + 1 : Nat) : Int) := by rw [wrap_id (by omega) (by omega)]; omega
    have hi2 := hm.2 i (by omega)
    refine ev_succ ?_
    simp only [laws_heldBothS.l0, e1, e2]
    refine ev_pos (by have := hm.1; omega) (ev_pos (by omega) ?_)
    rw [hi2]
    refine ev_pos rfl (ev_pos rfl ?_)
    rw [wrap_succ (by omega)]
    exact ih (i + 1) (by omega)
theorem heldBothS_ev (l o : List S32) (hl : l.length ≤ 4611686018427387000) (hm : MKBoth l o) : Ev (fun k => laws_heldBothS.f k o 1) (1 + 2 * (l.length : Int)) :=
  heldBothS_l0 l o hl hm l.length 0 (by omega)
theorem FnExactBackOf_j0 (l0 : List S57) (h : l0.length ≤ 1048576) (r : List S32) (hr : BK (l0.map cvBoth) r) : Ev (fun k => laws_FnExactBackOf.j0 k l0 r r false) true := by
  have e : (l0.map cvBoth).length ≤ 9223372036854775806 := by rw [List.length_map]; omega
  have hl := BK_len hr
  obtain ⟨q, hq, hm⟩ := markBothS_ev r (by omega)
  obtain ⟨b, hb, hb2⟩ := iBackOf_ev _ e
  obtain rfl := BK_eq hr hb2
  have hh := heldBothS_ev r q (by omega) hq
  refine ev_succ ?_
  simp only [laws_FnExactBackOf.j0]
  refine ev_neg (by simp) (Ev.bind hm (Ev.bind hh (ev_neg (by omega) (ev_pos rfl (Ev.bind (toBothS_ev l0 h) (Ev.bind hb (Ev.bind (eqBothS_ev _ _ (by omega)) (ev_pos (dec_pos rfl) (Ev.bind hh (ev_neg (by omega) (ev_pos rfl (Ev.now _))))))))))))
theorem FnExactBackOf (l0 : List S57) (h0 : l0.length ≤ 9223372036854775807) : ∃ k, laws_FnExactBackOf.f k l0 = some true := by
  refine Ev.rounds ?_
  unfold laws_FnExactBackOf.f
  by_cases h : l0.length ≤ 1048576
  · have e : (l0.map cvBoth).length ≤ 4611686018427387000 := by rw [List.length_map]; omega
    obtain ⟨a, ha, ha2⟩ := sBackOf_ev (l0.map cvBoth) (by omega)
    obtain ⟨b, hb, hb2⟩ := iBackOf_ev (l0.map cvBoth) (by omega)
    obtain rfl := BK_eq ha2 hb2
    obtain ⟨q, hq, hm⟩ := markBothS_ev (l0.map cvBoth) e
    have hl := BK_len ha2
    rw [szBothS_eq l0 h]
    refine Ev.bind (Ev.now _) (ev_neg (by omega) (Ev.bind (toBothS_ev l0 h) (Ev.bind ha (Ev.bind (toBothS_ev l0 h) (Ev.bind hb (Ev.bind (eqBothS_ev _ _ (by omega)) (ev_pos (dec_pos rfl) (Ev.bind (toBothS_ev l0 h) (Ev.bind (eqBothS_ev _ _ (by omega)) (ev_pos (dec_pos rfl) (Ev.bind hm ?_)))))))))))
    refine ev_neg (by simp only; omega) (Ev.bind (eqBothS_ev _ _ (by omega)) ?_)
    rw [dec_pos rfl]
    exact FnExactBackOf_j0 l0 h a ha2
  · rw [szBothS_big l0 h0 h]
    exact Ev.bind (Ev.now _) (ev_pos (by omega) (Ev.now _))
end Go.Proofs.Ytbmhkhdmedemaaa.Pure
