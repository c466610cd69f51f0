/- The law FnExactDeepAt holds for every input; nothing is assumed. -/
import Derived.Test.YtbmhkhdmedemaaaQFnExactDeepAtx5
namespace Go.Proofs.Ytbmhkhdmedemaaa.Pure
open Go.RowKit Go.Proofs.Ytbmhkhdmedemaaa.PFnExactDeepAt Go.Proofs.YtbmhkhdmedemaaaW.PrintWords Go.Proofs.YtbmhkhdmedemaaaW.PrintLast Go.Proofs.YtbmhkhdmedemaaaW.PrintMore
set_option linter.unusedVariables false
set_option linter.unusedSimpArgs false
theorem ev_succ {α : Type} {g : Nat → Option α} {r : α} (h : Ev (fun k => g (k + 1)) r) : Ev g r := Ev.step (fun _ => rfl) h
theorem ev_pos {α : Type} {c : Prop} [Decidable c] {f g : Nat → Option α} {r : α} (h : c) (k : Ev f r) : Ev (fun n => if c then f n else g n) r := Ev.congr (fun _ => if_pos h) k
theorem ev_neg {α : Type} {c : Prop} [Decidable c] {f g : Nat → Option α} {r : α} (h : ¬c) (k : Ev g r) : Ev (fun n => if c then f n else g n) r := Ev.congr (fun _ => if_neg h) k
theorem ev_some {α : Type} {x r : α} (h : x = r) : Ev (fun _ => some x) r := h ▸ Ev.now x
theorem ev_to {α : Type} {g : Nat → Option α} {a r : α} (h : Ev g a) (e : a = r) : Ev g r := e ▸ h
/-- Whether P. -/
noncomputable def dec (P : Prop) : Bool := @decide P (Classical.propDecidable P)
theorem dec_iff {P : Prop} : dec P = true ↔ P := @decide_eq_true_iff P (Classical.propDecidable P)
theorem dec_pos {P : Prop} (h : P) : dec P = true := dec_iff.2 h
theorem dec_neg {P : Prop} (h : ¬P) : dec P = false := by
  cases e : dec P
  · rfl
  · exact absurd (dec_iff.1 e) h
theorem dec_congr {P Q : Prop} (h : P ↔ Q) : dec P = dec Q := by rw [propext h]
theorem dec_of {P : Prop} [Decidable P] : decide P = dec P := by
  by_cases h : P
  · rw [dec_pos h, decide_eq_true h]
  · rw [dec_neg h, decide_eq_false h]
theorem dec_bool {b : Bool} : b = dec (b = true) := by
  cases b
  · exact (dec_neg (by simp)).symm
  · exact (dec_pos rfl).symm
/-- From i on: at i, and from i + 1 on. -/
theorem from_step {i n : Nat} {Q : Nat → Prop} (h : i < n) : (∀ j, i ≤ j → j < n → Q j) ↔ Q i ∧ ∀ j, i + 1 ≤ j → j < n → Q j := by
  constructor
  · exact fun a => ⟨a i (Nat.le_refl _) h, fun j h1 h2 => a j (by omega) h2⟩
  · intro a j h1 h2
    by_cases e : j = i
    · exact e ▸ a.1
    · exact a.2 j (by omega) h2
theorem from_end {n : Nat} {Q : Nat → Prop} : ∀ j, n ≤ j → j < n → Q j := fun j h1 h2 => by omega
theorem wrap_id {x : Int} (h0 : -9223372036854775808 ≤ x) (h1 : x ≤ 9223372036854775807) : wrap64 x = x := by unfold wrap64; omega
theorem wrap_succ {i : Nat} (h : i ≤ 9223372036854775806) : wrap64 ((i : Int) + 1) = ((i + 1 : Nat) : Int) := by unfold wrap64; omega
theorem wrap_pred {i : Nat} (h : i ≤ 9223372036854775806) : wrap64 ((i : Int) - 1) = (i : Int) - 1 := by unfold wrap64; omega
/-- The bounds of a number of the kind int. -/
def I64 (x : Int) : Prop := -9223372036854775808 ≤ x ∧ x ≤ 9223372036854775807
theorem i64_wf {x : Int} (h : (Lit.int .i64 x).wf = true) : I64 x := by
  have h' : (decide (IntKind.i64.min ≤ x) && decide (x ≤ IntKind.i64.max)) = true := h
  have a : IntKind.i64.min = -9223372036854775808 := by decide
  have b : IntKind.i64.max = 9223372036854775807 := by decide
  rw [a, b] at h'
  simpa [I64] using h'
theorem sCustomer_nat (l : List S52) (i : Nat) : rd_T52 l (i : Int) = l.getD i z52 := rfl
theorem sCustomer_get {l : List S52} {i : Nat} (h : i < l.length) : rd_T52 l (i : Int) = l[i] := by
  rw [sCustomer_nat, List.getD_eq_getElem?_getD, List.getElem?_eq_getElem h]; rfl
theorem sCustomer_set (l : List S52) (i j : Nat) (v : S52) (h : i < l.length) : rd_T52 (l.set i v) (j : Int) = if j = i then v else rd_T52 l (j : Int) := by
  rw [sCustomer_nat, sCustomer_nat, List.getD_eq_getElem?_getD, List.getElem?_set]
  by_cases e : i = j
  · subst e; rw [if_pos rfl, if_pos h, if_pos rfl]; rfl
  · rw [if_neg e, if_neg (fun x => e x.symm), ← List.getD_eq_getElem?_getD]
theorem sCustomer_app (l : List S52) (v : S52) (j : Nat) : rd_T52 (l ++ [v]) (j : Int) = if j < l.length then rd_T52 l (j : Int) else if j = l.length then v else z52 := by
  rw [sCustomer_nat, sCustomer_nat, List.getD_eq_getElem?_getD, List.getD_eq_getElem?_getD, List.getElem?_append]
  by_cases h : j < l.length
  · rw [if_pos h, if_pos h]
  · rw [if_neg h, if_neg h]
    by_cases e : j = l.length
    · subst e; rw [if_pos rfl]; simp
    · rw [if_neg e, List.getElem?_eq_none (by simp; omega)]; rfl
theorem sCustomer_take (l : List S52) (n j : Nat) (h : j < n) : rd_T52 (l.take n) (j : Int) = rd_T52 l (j : Int) := by
  rw [sCustomer_nat, sCustomer_nat, List.getD_eq_getElem?_getD, List.getElem?_take, if_pos h, ← List.getD_eq_getElem?_getD]
theorem sCustomer_drop (l : List S52) (n j : Nat) : rd_T52 (l.drop n) (j : Int) = rd_T52 l ((n + j : Nat) : Int) := by
  rw [sCustomer_nat, sCustomer_nat, List.getD_eq_getElem?_getD, List.getElem?_drop, ← List.getD_eq_getElem?_getD]
theorem sCustomer_ext {a b : List S52} (hl : a.length = b.length) (h : ∀ j : Nat, j < a.length → rd_T52 a (j : Int) = rd_T52 b (j : Int)) : a = b := by
  refine List.ext_getElem hl fun j h1 h2 => ?_
  have := h j h1
  rw [sCustomer_get h1, sCustomer_get h2] at this
  exact this
def CIn (l : List S52) (j : Nat) : Prop := (0 ≤ (rd_T52 l (j : Int)).f0 ∧ (rd_T52 l (j : Int)).f0 ≤ 60) ∧ (1 ≤ (rd_T52 l (j : Int)).f1 ∧ (rd_T52 l (j : Int)).f1 ≤ 9) ∧ (0 < j → (rd_T52 l ((j : Int) - 1)).f0 ≤ (rd_T52 l (j : Int)).f0)
/-- Customers. -/
def COK (l : List S52) : Prop := (∀ j : Nat, 0 ≤ j → j < l.length → CIn l j) ∧ (l.length : Int) ≤ 8
def cc (l : List S52) (i : Nat) : Int := (rd_T52 l (i : Int)).f0
def pp (l : List S52) (i : Nat) : Int := (rd_T52 l (i : Int)).f1
theorem cc_in {l : List S52} (h : COK l) {i : Nat} (hi : i < l.length) : 0 ≤ cc l i ∧ cc l i ≤ 60 := (h.1 i (Nat.zero_le _) hi).1
theorem pp_in {l : List S52} (h : COK l) {i : Nat} (hi : i < l.length) : 1 ≤ pp l i ∧ pp l i ≤ 9 := (h.1 i (Nat.zero_le _) hi).2.1
theorem cc_step {l : List S52} (h : COK l) {i : Nat} (hi : i + 1 < l.length) : cc l i ≤ cc l (i + 1) := by
  have := (h.1 (i + 1) (Nat.zero_le _) hi).2.2 (by omega)
  rw [show (((i + 1 : Nat) : Int) - 1) = (i : Int) by omega] at this
  exact this
theorem cc_mono {l : List S52} (h : COK l) (j : Nat) : ∀ i : Nat, i ≤ j → j < l.length → cc l i ≤ cc l j := by
  induction j with
  | zero => intro i hi _; obtain rfl : i = 0 := by omega
            exact Int.le_refl _
  | succ j ih =>
    intro i hi hj
    by_cases e : i = j + 1
    · subst e; exact Int.le_refl _
    · have := ih i (by omega) (by omega)
      have := cc_step h hj
      omega
theorem clen {l : List S52} (h : COK l) : l.length ≤ 8 := by have := h.2; omega
/-- The end of what goes on at j with the end E. -/
def pe (l : List S52) : Nat → Nat → Int → Int
  | 0, _, E => E
  | d + 1, j, E => if cc l j < E then pe l d (j + 1) (E + pp l j) else E
/-- The end of the period of customer i. -/
def PEND (l : List S52) (i : Nat) : Int := pe l (l.length - 1 - i) (i + 1) (cc l i + pp l i)
theorem pe_in {l : List S52} (h : COK l) : ∀ (d j : Nat) (E : Int), j + d = l.length → E ≤ pe l d j E ∧ pe l d j E ≤ E + 9 * (d : Int)
  | 0, j, E, _ => by simp [pe]
  | d + 1, j, E, hj => by
    have p := pp_in h (i := j) (by omega)
    simp only [pe]
    split
    · have := pe_in h d (j + 1) (E + pp l j) (by omega)
      omega
    · omega
theorem PEND_in {l : List S52} (h : COK l) {i : Nat} (hi : i < l.length) : cc l i + pp l i ≤ PEND l i ∧ PEND l i ≤ 200 := by
  have a := pe_in h (l.length - 1 - i) (i + 1) (cc l i + pp l i) (by omega)
  have := cc_in h hi; have := pp_in h hi; have := clen h
  unfold PEND; omega
theorem pe_mono {l : List S52} (h : COK l) : ∀ (d j : Nat) (E E' : Int), j + d = l.length → E ≤ E' → pe l d j E ≤ pe l d j E'
  | 0, j, E, E', _, he => he
  | d + 1, j, E, E', hj, he => by
    have p := pp_in h (i := j) (by omega)
    simp only [pe]
    by_cases c : cc l j < E
    · rw [if_pos c, if_pos (by omega)]
      exact pe_mono h d (j + 1) _ _ (by omega) (by omega)
    · rw [if_neg c]
      split
      · have := (pe_in h d (j + 1) (E' + pp l j) (by omega)).1
        omega
      · exact he
theorem pe_within {l : List S52} (h : COK l) (a : Nat) (ha : a < l.length) : ∀ (d m : Nat) (E : Int), m + d = l.length → m ≤ a → cc l a < pe l d m E → PEND l a ≤ pe l d m E
  | 0, m, E, hm, hma, _ => by omega
  | d + 1, m, E, hm, hma, hlt => by
    have c1 := cc_mono h a m hma ha
    simp only [pe] at hlt ⊢
    by_cases c : cc l m < E
    · rw [if_pos c] at hlt ⊢
      by_cases e : m = a
      · subst e
        have := pe_mono h (l.length - 1 - m) (m + 1) (cc l m + pp l m) (E + pp l m) (by omega) (by omega)
        rw [show d = l.length - 1 - m by omega]
        exact this
      · exact pe_within h a ha d (m + 1) _ (by omega) (by omega) hlt
    · rw [if_neg c] at hlt; omega
/-- Periods are within each other. -/
theorem PEND_within {l : List S52} (h : COK l) {j a : Nat} (hj : j < a) (ha : a < l.length) (hlt : cc l a < PEND l j) : PEND l a ≤ PEND l j :=
  pe_within h a ha (l.length - 1 - j) (j + 1) _ (by omega) (by omega) hlt
/-- The last one of the first i whose period ends behind customer a's coming. -/
def lfa (l : List S52) (a : Nat) : Nat → Int
  | 0 => -1
  | i + 1 => if PEND l i > cc l a then (i : Int) else lfa l a i
theorem lfa_in (l : List S52) (a : Nat) : ∀ i : Nat, -1 ≤ lfa l a i ∧ lfa l a i < (i : Int)
  | 0 => by simp [lfa]
  | i + 1 => by
    have := lfa_in l a i
    simp only [lfa]; split <;> omega
theorem lfa_past (l : List S52) (a : Nat) : ∀ i j : Nat, j < i → lfa l a i < (j : Int) → PEND l j ≤ cc l a
  | i + 1, j, hj, h => by
    simp only [lfa] at h
    by_cases c : PEND l i > cc l a
    · rw [if_pos c] at h; omega
    · rw [if_neg c] at h
      by_cases e : j = i
      · subst e; omega
      · exact lfa_past l a i j (by omega) h
theorem lfa_there (l : List S52) (a : Nat) : ∀ i j : Nat, lfa l a i = (j : Int) → PEND l j > cc l a
  | 0, j, h => by simp only [lfa] at h; omega
  | i + 1, j, h => by
    simp only [lfa] at h
    by_cases c : PEND l i > cc l a
    · rw [if_pos c] at h
      obtain rfl : i = j := by omega
      exact c
    · rw [if_neg c] at h
      exact lfa_there l a i j h
/-- What LeftFor answers. -/
noncomputable def LFV (l : List S52) (a : Int) : Int := @ite _ (COK l ∧ 0 ≤ a ∧ a < (l.length : Int)) (Classical.propDecidable _) (lfa l a.toNat a.toNat) (-2)
theorem LFV_pos {l : List S52} {a : Nat} (h : COK l) (ha : a < l.length) : LFV l (a : Int) = lfa l a a := by unfold LFV; exact if_pos ⟨h, by omega, by omega⟩
theorem LFV_neg {l : List S52} {a : Int} (h : ¬(COK l ∧ 0 ≤ a ∧ a < (l.length : Int))) : LFV l a = -2 := by unfold LFV; exact if_neg h
/-- How many are left one over the other. -/
def deep (l : List S52) : Nat → Int → Int
  | 0, _ => 0
  | f + 1, a => if a < 0 then 0 else 1 + deep l f (lfa l a.toNat a.toNat)
theorem deep_in (l : List S52) : ∀ (f : Nat) (a : Int), 0 ≤ deep l f a ∧ deep l f a ≤ (f : Int)
  | 0, _ => by simp [deep]
  | f + 1, a => by
    have := deep_in l f (lfa l a.toNat a.toNat)
    simp only [deep]; split <;> omega
theorem deep_more (l : List S52) : ∀ (f g : Nat) (a : Int), a < (f : Int) → a < (g : Int) → deep l f a = deep l g a
  | 0, 0, _, _, _ => rfl
  | 0, g + 1, a, h, _ => by simp only [deep]; rw [if_pos (by omega)]
  | f + 1, 0, a, _, h => by simp only [deep]; rw [if_pos (by omega)]
  | f + 1, g + 1, a, h1, h2 => by
    simp only [deep]
    by_cases c : a < 0
    · rw [if_pos c, if_pos c]
    · rw [if_neg c, if_neg c]
      have := lfa_in l a.toNat a.toNat
      rw [deep_more l f g _ (by omega) (by omega)]
/-- What DeepAt answers. -/
noncomputable def DPV (l : List S52) (a : Int) : Int := @ite _ (COK l ∧ 0 ≤ a ∧ a < (l.length : Int)) (Classical.propDecidable _) (deep l 9 a) (-1)
theorem DPV_pos {l : List S52} {a : Nat} (h : COK l) (ha : a < l.length) : DPV l (a : Int) = deep l 9 (a : Int) := by unfold DPV; exact if_pos ⟨h, by omega, by omega⟩
theorem DPV_neg {l : List S52} {a : Int} (h : ¬(COK l ∧ 0 ≤ a ∧ a < (l.length : Int))) : DPV l a = -1 := by unfold DPV; exact if_neg h
/-- What PeriodFrom answers. -/
noncomputable def PFV (l : List S52) (a : Int) : Int := @ite _ (COK l ∧ 0 ≤ a ∧ a < (l.length : Int)) (Classical.propDecidable _) (PEND l a.toNat - cc l a.toNat) (-1)
theorem PFV_pos {l : List S52} {a : Nat} (h : COK l) (ha : a < l.length) : PFV l (a : Int) = PEND l a - cc l a := by unfold PFV; exact if_pos ⟨h, by omega, by omega⟩
theorem PFV_neg {l : List S52} {a : Int} (h : ¬(COK l ∧ 0 ≤ a ∧ a < (l.length : Int))) : PFV l a = -1 := by unfold PFV; exact if_neg h
theorem iperiodFrom_l0 {l : List S52} (h : COK l) (a : Nat) (ha : a < l.length) : ∀ (d j : Nat) (E : Int), j + d = l.length → cc l a ≤ E → E + 9 * (d : Int) ≤ 1000 → Ev (fun k => impl_periodFrom.l0 k l (a : Int) (E - cc l a) (j : Int)) (pe l d j E - cc l a) := by
  have n := clen h
  have ca := cc_in h ha
  intro d
  induction d with
  | zero =>
    intro j E hj hE hb
    refine ev_succ ?_
    simp only [impl_periodFrom.l0]
    exact ev_neg (by omega) (Ev.now _)
  | succ d ih =>
    intro j E hj hE hb
    have p := pp_in h (i := j) (by omega)
    have e1 : wrap64 ((rd_T52 l (a : Int)).f0 + (E - cc l a)) = E := by
      show wrap64 (cc l a + (E - cc l a)) = E
      rw [wrap_id (by omega) (by omega)]; omega
    have e2 : wrap64 (E - cc l a + (rd_T52 l (j : Int)).f1) = E + pp l j - cc l a := by
      show wrap64 (E - cc l a + pp l j) = _
      rw [wrap_id (by omega) (by omega)]; omega
    refine ev_succ ?_
    simp only [impl_periodFrom.l0, e1, e2, pe]
    rw [wrap_succ (i := j) (by omega)]
    refine ev_pos (by omega) (ev_pos (by omega) (ev_pos (by omega) (ev_pos (by omega) ?_)))
    by_cases c : cc l j < E
    · rw [if_pos c]
      exact ev_pos c (ih (j + 1) (E + pp l j) (by omega) (by omega) (by omega))
    · rw [if_neg c]
      exact ev_neg c (Ev.now _)
theorem iperiodFrom_ev {l : List S52} (h : COK l) (a : Nat) (ha : a < l.length) : Ev (fun k => impl_periodFrom.f k l (a : Int)) (PEND l a - cc l a) := by
  have n := clen h
  have ca := cc_in h ha
  have p := pp_in h ha
  unfold impl_periodFrom.f
  rw [wrap_succ (i := a) (by omega)]
  refine ev_pos (by omega) (ev_pos (by omega) ?_)
  have := iperiodFrom_l0 h a ha (l.length - 1 - a) (a + 1) (cc l a + pp l a) (by omega) (by omega) (by omega)
  rw [show cc l a + pp l a - cc l a = pp l a by omega] at this
  exact this
theorem ileftFor_l0 {l : List S52} (h : COK l) (a : Nat) (ha : a < l.length) : ∀ i : Nat, i ≤ a → Ev (fun k => impl_leftFor.l0 k l (a : Int) ((i : Int) - 1)) (lfa l a i) := by
  have n := clen h
  intro i
  induction i with
  | zero =>
    intro _
    refine ev_succ ?_
    simp only [impl_leftFor.l0]
    exact ev_neg (by omega) (Ev.now _)
  | succ i ih =>
    intro hi
    have q := PEND_in h (i := i) (by omega)
    have ci := cc_in h (i := i) (by omega)
    have pi := pp_in h (i := i) (by omega)
    have e1 : wrap64 ((rd_T52 l (i : Int)).f0 + (PEND l i - cc l i)) = PEND l i := by
      show wrap64 (cc l i + (PEND l i - cc l i)) = _
      rw [wrap_id (by omega) (by omega)]; omega
    refine ev_succ ?_
    rw [show ((i + 1 : Nat) : Int) - 1 = (i : Int) by omega]
    simp only [impl_leftFor.l0, lfa]
    rw [wrap_pred (i := i) (by omega)]
    refine ev_pos (by omega) (ev_pos (by omega) (ev_pos (by omega) (Ev.bind (iperiodFrom_ev h i (by omega)) (ev_pos (by omega) (ev_pos (by omega) ?_)))))
    rw [e1]
    by_cases c : PEND l i > cc l a
    · rw [if_pos c]; exact ev_pos c (Ev.now _)
    · rw [if_neg c]; exact ev_neg c (ih (by omega))
theorem ileftFor_ev {l : List S52} (h : COK l) (a : Nat) (ha : a < l.length) : Ev (fun k => impl_leftFor.f k l (a : Int)) (lfa l a a) := by
  unfold impl_leftFor.f
  rw [wrap_pred (i := a) (by have := clen h; omega)]
  exact ileftFor_l0 h a ha a (Nat.le_refl _)
theorem iCustomersOk_l0 (l : List S52) (hl : l.length ≤ 9223372036854775806) : ∀ d i : Nat, i + d = l.length →
    Ev (fun k => impl_CustomersOk.l0 k l l (l.length : Int) (i : Int)) (dec ((∀ j : Nat, i ≤ j → j < l.length → CIn l j) ∧ (l.length : Int) ≤ 8)) := by
  intro d
  induction d with
  | zero =>
    intro i hi
    refine ev_succ ?_
    simp only [impl_CustomersOk.l0]
    refine ev_neg (by omega) (ev_some ?_)
    obtain rfl : i = l.length := by omega
    rw [dec_of]
    exact dec_congr ⟨fun h => ⟨from_end, h⟩, fun h => h.2⟩
  | succ d ih =>
    intro i hi
    refine ev_succ ?_
    simp only [impl_CustomersOk.l0]
    have hs := from_step (i := i) (n := l.length) (Q := fun j => CIn l j) (by omega)
    refine ev_pos (by omega) (ev_pos (by omega) (ev_pos (by omega) ?_))
    by_cases h1 : (rd_T52 l (i : Int)).f0 < 0
    · exact ev_pos h1 (ev_some (dec_neg (fun x => by have := (hs.1 x.1).1.1.1; omega)).symm)
    refine ev_neg h1 ?_
    by_cases h2 : (rd_T52 l (i : Int)).f0 > 60
    · exact ev_pos h2 (ev_some (dec_neg (fun x => by have := (hs.1 x.1).1.1.2; omega)).symm)
    refine ev_neg h2 ?_
    rw [wrap_succ (by omega), wrap_pred (by omega)]
    have fin : (0 < i → (rd_T52 l ((i : Int) - 1)).f0 ≤ (rd_T52 l (i : Int)).f0) → Ev (fun k => if (rd_T52 l (i : Int)).f1 < 1 then some false else if (rd_T52 l (i : Int)).f1 > 9 then some false else impl_CustomersOk.l0 k l l (l.length : Int) ((i + 1 : Nat) : Int)) (dec ((∀ j : Nat, i ≤ j → j < l.length → CIn l j) ∧ (l.length : Int) ≤ 8)) := by
      intro hp
      by_cases h3 : (rd_T52 l (i : Int)).f1 < 1
      · exact ev_pos h3 (ev_some (dec_neg (fun x => by have := (hs.1 x.1).1.2.1.1; omega)).symm)
      refine ev_neg h3 ?_
      by_cases h4 : (rd_T52 l (i : Int)).f1 > 9
      · exact ev_pos h4 (ev_some (dec_neg (fun x => by have := (hs.1 x.1).1.2.1.2; omega)).symm)
      refine ev_neg h4 (ev_to (ih (i + 1) (by omega)) (dec_congr ?_))
      rw [hs]
      exact ⟨fun x => ⟨⟨⟨⟨by omega, by omega⟩, ⟨by omega, by omega⟩, hp⟩, x.1⟩, x.2⟩, fun x => ⟨x.1.2, x.2⟩⟩
    by_cases h5 : (i : Int) > 0
    · refine ev_pos h5 (ev_pos (by omega) (ev_pos (by omega) ?_))
      by_cases h6 : (rd_T52 l (i : Int)).f0 < (rd_T52 l ((i : Int) - 1)).f0
      · exact ev_pos h6 (ev_some (dec_neg (fun x => by have := (hs.1 x.1).1.2.2 (by omega); omega)).symm)
      · exact ev_neg h6 (fin (fun _ => by omega))
    · exact ev_neg h5 (fin (fun h => by omega))
theorem iCustomersOk_ev (l : List S52) (hl : l.length ≤ 9223372036854775806) : Ev (fun k => impl_CustomersOk.f k l) (dec (COK l)) := iCustomersOk_l0 l hl l.length 0 (by omega)
theorem iDeepAt_l0 {l : List S52} (h : COK l) : ∀ (f : Nat) (a n : Int), a < (f : Int) → a < (l.length : Int) → 0 ≤ n → n + f ≤ 100 → Ev (fun k => impl_DeepAt.l0 k l a n) (n + deep l f a) := by
  intro f
  induction f with
  | zero =>
    intro a n ha hl h0 hn
    refine ev_succ ?_
    simp only [impl_DeepAt.l0, deep]
    exact ev_neg (by omega) (ev_some (by omega))
  | succ f ih =>
    intro a n ha hl h0 hn
    refine ev_succ ?_
    simp only [impl_DeepAt.l0, deep]
    by_cases c : a < 0
    · rw [if_pos c]
      exact ev_neg (by omega) (ev_some (by omega))
    · obtain ⟨m, rfl⟩ := Int.eq_ofNat_of_zero_le (show 0 ≤ a by omega)
      rw [if_neg c]
      have b := lfa_in l m m
      refine ev_pos (by omega) (Ev.bind (ileftFor_ev h m (by omega)) ?_)
      rw [wrap_id (x := n + 1) (by omega) (by omega)]
      refine ev_to (ih (lfa l m m) (n + 1) (by omega) (by omega) (by omega) (by omega)) ?_
      rw [Int.toNat_natCast]; omega
theorem iDeepAt_ev (l : List S52) (a : Int) (hl : l.length ≤ 9223372036854775806) : Ev (fun k => impl_DeepAt.f k l a) (DPV l a) := by
  unfold impl_DeepAt.f
  have no : ∀ b : Bool, b = true → DPV l a = -1 → Ev (fun k => impl_DeepAt.j0 k l a b) (DPV l a) := by
    intro b hb he
    refine ev_succ ?_
    simp only [impl_DeepAt.j0]
    exact ev_pos hb (ev_some he.symm)
  refine Ev.bind (iCustomersOk_ev l hl) ?_
  by_cases h : COK l
  · refine ev_pos (dec_pos h) ?_
    by_cases h0 : a < 0
    · exact ev_pos h0 (no _ rfl (DPV_neg (by omega)))
    · refine ev_neg h0 ?_
      by_cases h1 : a ≥ (l.length : Int)
      · exact no _ (decide_eq_true h1) (DPV_neg (by omega))
      · obtain ⟨m, rfl⟩ := Int.eq_ofNat_of_zero_le (show 0 ≤ a by omega)
        have n := clen h
        rw [DPV_pos h (by omega), decide_eq_false h1]
        refine ev_succ ?_
        simp only [impl_DeepAt.j0]
        exact ev_neg (by simp) (ev_to (iDeepAt_l0 h 9 m 0 (by omega) (by omega) (by omega) (by omega)) (by omega))
  · exact ev_neg (by rw [dec_neg h]; simp) (no _ rfl (DPV_neg (fun x => h x.1)))
theorem l1In_eq (a b c : Int) : spec_l1In.f a b c = some (dec (b ≤ a ∧ a ≤ c)) := by
  unfold spec_l1In.f
  by_cases h : a ≥ b
  · rw [if_pos h]
    by_cases h2 : a ≤ c
    · rw [decide_eq_true h2, dec_pos ⟨h, h2⟩]
    · rw [decide_eq_false h2, dec_neg (fun x => h2 x.2)]
  · rw [if_neg h, dec_neg (fun x => h x.1)]
theorem l1In_ev (a b c : Int) : Ev (fun _ => spec_l1In.f a b c) (dec (b ≤ a ∧ a ≤ c)) := Ev.congr (fun _ => l1In_eq a b c) (Ev.now _)
theorem sCustomersOk_l0 (l : List S52) (hl : l.length ≤ 9223372036854775806) : ∀ d i : Nat, i + d = l.length →
    Ev (fun k => spec_CustomersOk.l0 k l (i : Int)) (dec ((∀ j : Nat, i ≤ j → j < l.length → CIn l j) ∧ (l.length : Int) ≤ 8)) := by
  intro d
  induction d with
  | zero =>
    intro i hi
    refine ev_succ ?_
    simp only [spec_CustomersOk.l0]
    refine ev_neg (by omega) (ev_some ?_)
    obtain rfl : i = l.length := by omega
    rw [dec_of]
    exact dec_congr ⟨fun h => ⟨from_end, h⟩, fun h => h.2⟩
  | succ d ih =>
    intro i hi
    refine ev_succ ?_
    simp only [spec_CustomersOk.l0]
    have hs := from_step (i := i) (n := l.length) (Q := fun j => CIn l j) (by omega)
    refine ev_pos (by omega) (ev_pos (by omega) (Ev.bind (l1In_ev _ _ _) ?_))
    by_cases h1 : 0 ≤ (rd_T52 l (i : Int)).f0 ∧ (rd_T52 l (i : Int)).f0 ≤ 60
    · refine ev_pos (dec_pos h1) (Ev.bind (l1In_ev _ _ _) ?_)
      by_cases h2 : 1 ≤ (rd_T52 l (i : Int)).f1 ∧ (rd_T52 l (i : Int)).f1 ≤ 9
      · refine ev_pos (dec_pos h2) ?_
        rw [wrap_succ (by omega), wrap_pred (by omega)]
        by_cases h3 : (i : Int) > 0
        · refine ev_pos h3 (ev_pos (by omega) (ev_pos (by omega) ?_))
          by_cases h4 : (rd_T52 l (i : Int)).f0 < (rd_T52 l ((i : Int) - 1)).f0
          · exact ev_pos h4 (ev_some (dec_neg (fun x => by have := (hs.1 x.1).1.2.2 (by omega); omega)).symm)
          · refine ev_neg h4 (ev_to (ih (i + 1) (by omega)) (dec_congr ?_))
            rw [hs]
            exact ⟨fun x => ⟨⟨⟨h1, h2, fun _ => by omega⟩, x.1⟩, x.2⟩, fun x => ⟨x.1.2, x.2⟩⟩
        · refine ev_neg h3 (ev_to (ih (i + 1) (by omega)) (dec_congr ?_))
          rw [hs]
          exact ⟨fun x => ⟨⟨⟨h1, h2, fun _ => by omega⟩, x.1⟩, x.2⟩, fun x => ⟨x.1.2, x.2⟩⟩
      · exact ev_neg (by rw [dec_neg h2]; simp) (ev_some (dec_neg (fun x => h2 (hs.1 x.1).1.2.1)).symm)
    · exact ev_neg (by rw [dec_neg h1]; simp) (ev_some (dec_neg (fun x => h1 (hs.1 x.1).1.1)).symm)
theorem sCustomersOk_ev (l : List S52) (hl : l.length ≤ 9223372036854775806) : Ev (fun k => spec_CustomersOk.f k l) (dec (COK l)) := sCustomersOk_l0 l hl l.length 0 (by omega)
theorem sPeriodFrom_l0 {l : List S52} (h : COK l) (a : Nat) (ha : a < l.length) : ∀ (d j : Nat) (E : Int), j + d = l.length → cc l a ≤ E → E + 9 * (d : Int) ≤ 1000 → Ev (fun k => spec_PeriodFrom.l0 k l (a : Int) E (j : Int)) (pe l d j E - cc l a) := by
  have n := clen h
  have ca := cc_in h ha
  intro d
  induction d with
  | zero =>
    intro j E hj hE hb
    refine ev_succ ?_
    simp only [spec_PeriodFrom.l0]
    refine ev_neg (by omega) (ev_pos (by omega) (ev_pos (by omega) (ev_some ?_)))
    exact wrap_id (by show _ ≤ E - cc l a; omega) (by show E - cc l a ≤ _; omega)
  | succ d ih =>
    intro j E hj hE hb
    have p := pp_in h (i := j) (by omega)
    have e1 : wrap64 (E - (rd_T52 l (a : Int)).f0) = E - cc l a := wrap_id (by show _ ≤ E - cc l a; omega) (by show E - cc l a ≤ _; omega)
    have e2 : wrap64 (E + (rd_T52 l (j : Int)).f1) = E + pp l j := wrap_id (by show _ ≤ E + pp l j; omega) (by show E + pp l j ≤ _; omega)
    refine ev_succ ?_
    simp only [spec_PeriodFrom.l0, e1, e2, pe]
    rw [wrap_succ (i := j) (by omega)]
    refine ev_pos (by omega) (ev_pos (by omega) ?_)
    by_cases c : cc l j < E
    · rw [if_pos c]
      exact ev_pos c (ih (j + 1) (E + pp l j) (by omega) (by omega) (by omega))
    · rw [if_neg c]
      exact ev_neg c (ev_pos (by omega) (ev_pos (by omega) (Ev.now _)))
theorem sPeriodFrom_ev (l : List S52) (a : Int) (hl : l.length ≤ 9223372036854775806) : Ev (fun k => spec_PeriodFrom.f k l a) (PFV l a) := by
  unfold spec_PeriodFrom.f
  have no : ∀ b : Bool, b = true → PFV l a = -1 → Ev (fun k => spec_PeriodFrom.j0 k l a b) (PFV l a) := by
    intro b hb he
    refine ev_succ ?_
    simp only [spec_PeriodFrom.j0]
    exact ev_pos hb (ev_some he.symm)
  refine Ev.bind (sCustomersOk_ev l hl) ?_
  by_cases h : COK l
  · refine ev_pos (dec_pos h) (Ev.bind (l1In_ev _ _ _) ?_)
    rw [wrap_id (x := (l.length : Int) - 1) (by omega) (by omega)]
    by_cases h0 : 0 ≤ a ∧ a ≤ (l.length : Int) - 1
    · obtain ⟨m, rfl⟩ := Int.eq_ofNat_of_zero_le h0.1
      have hm : m < l.length := by omega
      have ca := cc_in h hm
      have p := pp_in h hm
      have n := clen h
      rw [PFV_pos h hm, dec_pos h0]
      refine ev_succ ?_
      simp only [spec_PeriodFrom.j0]
      have e2 : wrap64 ((rd_T52 l (m : Int)).f0 + (rd_T52 l (m : Int)).f1) = cc l m + pp l m := wrap_id (by show _ ≤ cc l m + pp l m; omega) (by show cc l m + pp l m ≤ _; omega)
      rw [e2, wrap_succ (i := m) (by omega)]
      exact ev_neg (by simp) (ev_pos (by omega) (ev_pos (by omega) (sPeriodFrom_l0 h m hm (l.length - 1 - m) (m + 1) _ (by omega) (by omega) (by omega))))
    · exact no _ (by rw [dec_neg h0]; rfl) (PFV_neg (fun x => h0 ⟨x.2.1, by omega⟩))
  · exact ev_neg (by rw [dec_neg h]; simp) (no _ rfl (PFV_neg (fun x => h x.1)))
theorem sLeftFor_l0 {l : List S52} (h : COK l) (a : Nat) (ha : a < l.length) : ∀ i : Nat, i ≤ a → Ev (fun k => spec_LeftFor.l0 k l (a : Int) ((i : Int) - 1)) (lfa l a i) := by
  have n := clen h
  intro i
  induction i with
  | zero =>
    intro _
    refine ev_succ ?_
    simp only [spec_LeftFor.l0]
    exact ev_neg (by omega) (Ev.now _)
  | succ i ih =>
    intro hi
    have q := PEND_in h (i := i) (by omega)
    have ci := cc_in h (i := i) (by omega)
    have pi := pp_in h (i := i) (by omega)
    have e1 : wrap64 ((rd_T52 l (i : Int)).f0 + (PEND l i - cc l i)) = PEND l i := by
      show wrap64 (cc l i + (PEND l i - cc l i)) = _
      rw [wrap_id (by omega) (by omega)]; omega
    have sp := sPeriodFrom_ev l (i : Int) (by omega)
    rw [PFV_pos h (by omega)] at sp
    refine ev_succ ?_
    rw [show ((i + 1 : Nat) : Int) - 1 = (i : Int) by omega]
    simp only [spec_LeftFor.l0, lfa]
    rw [wrap_pred (i := i) (by omega)]
    refine ev_pos (by omega) (ev_pos (by omega) (ev_pos (by omega) (Ev.bind sp (ev_pos (by omega) (ev_pos (by omega) ?_)))))
    rw [e1]
    by_cases c : PEND l i > cc l a
    · rw [if_pos c]; exact ev_pos c (Ev.now _)
    · rw [if_neg c]; exact ev_neg c (ih (by omega))
theorem sLeftFor_ev (l : List S52) (a : Int) (hl : l.length ≤ 9223372036854775806) : Ev (fun k => spec_LeftFor.f k l a) (LFV l a) := by
  unfold spec_LeftFor.f
  have no : ∀ b : Bool, b = true → LFV l a = -2 → Ev (fun k => spec_LeftFor.j0 k l a b) (LFV l a) := by
    intro b hb he
    refine ev_succ ?_
    simp only [spec_LeftFor.j0]
    exact ev_pos hb (ev_some he.symm)
  refine Ev.bind (sCustomersOk_ev l hl) ?_
  by_cases h : COK l
  · refine ev_pos (dec_pos h) (Ev.bind (l1In_ev _ _ _) ?_)
    rw [wrap_id (x := (l.length : Int) - 1) (by omega) (by omega)]
    by_cases h0 : 0 ≤ a ∧ a ≤ (l.length : Int) - 1
    · obtain ⟨m, rfl⟩ := Int.eq_ofNat_of_zero_le h0.1
      have hm : m < l.length := by omega
      rw [LFV_pos h hm, dec_pos h0]
      refine ev_succ ?_
      simp only [spec_LeftFor.j0]
      rw [wrap_pred (i := m) (by have := clen h; omega)]
      exact ev_neg (by simp) (sLeftFor_l0 h m hm m (Nat.le_refl _))
    · exact no _ (by rw [dec_neg h0]; rfl) (LFV_neg (fun x => h0 ⟨x.2.1, by omega⟩))
  · exact ev_neg (by rw [dec_neg h]; simp) (no _ rfl (LFV_neg (fun x => h x.1)))
theorem sDeepAt_l0 {l : List S52} (h : COK l) : ∀ (f : Nat) (a n : Int), a < (f : Int) → a < (l.length : Int) → 0 ≤ n → n + f ≤ 100 → Ev (fun k => spec_DeepAt.l0 k l n a) (n + deep l f a) := by
  have hn8 := clen h
  intro f
  induction f with
  | zero =>
    intro a n ha hl h0 hn
    refine ev_succ ?_
    simp only [spec_DeepAt.l0, deep]
    exact ev_neg (by omega) (ev_some (by omega))
  | succ f ih =>
    intro a n ha hl h0 hn
    refine ev_succ ?_
    simp only [spec_DeepAt.l0, deep]
    by_cases c : a < 0
    · rw [if_pos c]
      exact ev_neg (by omega) (ev_some (by omega))
    · obtain ⟨m, rfl⟩ := Int.eq_ofNat_of_zero_le (show 0 ≤ a by omega)
      rw [if_neg c]
      have b := lfa_in l m m
      have sl := sLeftFor_ev l (m : Int) (by omega)
      rw [LFV_pos h (by omega)] at sl
      refine ev_pos (by omega) (Ev.bind sl ?_)
      rw [wrap_id (x := n + 1) (by omega) (by omega)]
      refine ev_to (ih (lfa l m m) (n + 1) (by omega) (by omega) (by omega) (by omega)) ?_
      rw [Int.toNat_natCast]; omega
theorem sDeepAt_ev (l : List S52) (a : Int) (hl : l.length ≤ 9223372036854775806) : Ev (fun k => spec_DeepAt.f k l a) (DPV l a) := by
  unfold spec_DeepAt.f
  refine Ev.bind (sLeftFor_ev l a hl) ?_
  by_cases h : COK l ∧ 0 ≤ a ∧ a < (l.length : Int)
  · obtain ⟨m, rfl⟩ := Int.eq_ofNat_of_zero_le h.2.1
    have n := clen h.1
    have hm : m < l.length := by omega
    have b := lfa_in l m m
    have sl := sLeftFor_ev l (m : Int) hl
    rw [LFV_pos h.1 hm] at sl ⊢
    rw [DPV_pos h.1 hm]
    refine ev_neg (by omega) (Ev.bind sl ?_)
    refine ev_to (sDeepAt_l0 h.1 8 _ 1 (by omega) (by omega) (by omega) (by omega)) ?_
    have e : deep l 9 (m : Int) = if (m : Int) < 0 then 0 else 1 + deep l 8 (lfa l (m : Int).toNat (m : Int).toNat) := rfl
    rw [e, if_neg (by omega), Int.toNat_natCast]
  · rw [LFV_neg h, DPV_neg h]
    exact ev_pos rfl (Ev.now _)
def cvCustomer (x : S64) : S52 := ⟨x.f0, x.f1⟩
theorem toCustomerS_l0 (l : List S64) (hl : l.length ≤ 1048576) : ∀ (d i : Nat) (o : List S52), i + d = l.length → o.length = l.length → (∀ j : Nat, j < i → rd_T52 o (j : Int) = cvCustomer (rd_T64 l (j : Int))) →
    Ev (fun k => laws_toCustomerS.l0 k l o (i : Int)) (l.map cvCustomer) := by
  intro d
  induction d with
  | zero =>
    intro i o hi ho hr
    refine ev_succ ?_
    simp only [laws_toCustomerS.l0]
    refine ev_neg (by omega) (ev_some ?_)
    refine sCustomer_ext (by rw [List.length_map]; exact ho) (fun j hj => ?_)
    rw [hr j (by omega), sCustomer_nat, List.getD_eq_getElem?_getD, List.getElem?_map, List.getElem?_eq_getElem (by omega)]
    show cvCustomer (l.getD j _) = cvCustomer _
    rw [List.getD_eq_getElem?_getD, List.getElem?_eq_getElem (by omega)]; rfl
  | succ d ih =>
    intro i o hi ho hr
    refine ev_succ ?_
    simp only [laws_toCustomerS.l0, laws_toCustomer.f, Option.bind_some]
    refine ev_pos (by omega) (ev_pos (by omega) (ev_pos (by omega) ?_))
    rw [wrap_succ (by omega)]
    refine ih (i + 1) _ (by omega) (by rw [List.length_set]; exact ho) ?_
    intro j hj
    rw [show ((i : Int).toNat) = i from rfl, sCustomer_set o i j _ (by omega)]
    by_cases e : j = i
    · rw [if_pos e, e]; rfl
    · rw [if_neg e]; exact hr j (by omega)
theorem toCustomerS_ev (l : List S64) (hl : l.length ≤ 1048576) : Ev (fun k => laws_toCustomerS.f k l) (l.map cvCustomer) := by
  unfold laws_toCustomerS.f
  refine ev_pos (by omega) (ev_pos (by omega) ?_)
  refine toCustomerS_l0 l hl l.length 0 _ (by omega) (by simp) (fun j hj => by omega)
theorem szCustomerS_eq (l : List S64) (hl : l.length ≤ 1048576) : laws_szCustomerS.f l 1048576 = some (1048576 - (l.length : Int)) := by
  unfold laws_szCustomerS.f
  rw [wrap_id (by omega) (by omega), if_neg (by omega)]
theorem szCustomerS_big (l : List S64) (h0 : l.length ≤ 9223372036854775807) (hl : ¬ l.length ≤ 1048576) : laws_szCustomerS.f l 1048576 = some (-1) := by
  unfold laws_szCustomerS.f
  rw [wrap_id (by omega) (by omega), if_pos (by omega)]
theorem eqCustomerS_l0 (a b : List S52) (hl : a.length ≤ 9223372036854775806) (hb : a.length = b.length) : ∀ (d i : Nat), i + d = a.length → (∀ j : Nat, j < i → rd_T52 a (j : Int) = rd_T52 b (j : Int)) →
    Ev (fun k => laws_eqCustomerS.l0 k a b (i : Int)) (dec (a = b)) := by
  intro d
  induction d with
  | zero =>
    intro i hi hr
    refine ev_succ ?_
    simp only [laws_eqCustomerS.l0]
    refine ev_neg (by omega) (ev_some ?_)
    exact (dec_pos (sCustomer_ext hb (fun j hj => hr j (by omega)))).symm
  | succ d ih =>
    intro i hi hr
    refine ev_succ ?_
    simp only [laws_eqCustomerS.l0, laws_eqCustomer.f]
    refine ev_pos (by omega) (ev_pos (by omega) (ev_pos (by omega) ?_))
    by_cases h : (rd_T52 a (i : Int)).f0 = (rd_T52 b (i : Int)).f0
    · by_cases h2 : (rd_T52 a (i : Int)).f1 = (rd_T52 b (i : Int)).f1
      · rw [if_pos h, if_pos h2]
        simp only [Option.bind_some]
        refine ev_pos (by simp) ?_
        rw [wrap_succ (by omega)]
        refine ih (i + 1) (by omega) ?_
        intro j hj
        by_cases e : j = i
        · rw [e]
          cases ha : rd_T52 a (i : Int); cases hb' : rd_T52 b (i : Int)
          rw [ha, hb'] at h h2
          simp only at h h2
          rw [h, h2]
        · exact hr j (by omega)
      · rw [if_pos h, if_neg h2]
        simp only [Option.bind_some]
        refine ev_neg (by simp) (ev_some (dec_neg ?_).symm)
        intro e; exact h2 (by rw [e])
    · rw [if_neg h]
      simp only [Option.bind_some]
      refine ev_neg (by simp) (ev_some (dec_neg ?_).symm)
      intro e; exact h (by rw [e])
theorem eqCustomerS_ev (a b : List S52) (hl : a.length ≤ 9223372036854775806) : Ev (fun k => laws_eqCustomerS.f k a b) (dec (a = b)) := by
  unfold laws_eqCustomerS.f
  by_cases h : a.length = b.length
  · refine ev_pos (by omega) ?_
    exact eqCustomerS_l0 a b hl h a.length 0 (by omega) (fun j hj => by omega)
  · refine ev_neg (by omega) (ev_some (dec_neg ?_).symm)
    intro e; exact h (by rw [e])
theorem FnExactDeepAt (l0 : List S64) (a1 : Int) (h0 : l0.length ≤ 9223372036854775807) : ∃ k, laws_FnExactDeepAt.f k l0 a1 = some true := by
  refine Ev.rounds ?_
  unfold laws_FnExactDeepAt.f
  by_cases h : l0.length ≤ 1048576
  · have e : (l0.map cvCustomer).length ≤ 9223372036854775806 := by rw [List.length_map]; omega
    rw [szCustomerS_eq l0 h]
    refine Ev.bind (Ev.now _) (ev_neg (by omega) (Ev.bind (toCustomerS_ev l0 h) (Ev.bind (sDeepAt_ev _ _ e) (Ev.bind (toCustomerS_ev l0 h) (Ev.bind (iDeepAt_ev _ _ e) ?_)))))
    refine ev_pos rfl (Ev.bind (toCustomerS_ev l0 h) (Ev.bind (eqCustomerS_ev _ _ e) ?_))
    exact ev_pos (dec_pos rfl) (Ev.now _)
  · rw [szCustomerS_big l0 h0 h]
    exact Ev.bind (Ev.now _) (ev_pos (by omega) (Ev.now _))
end Go.Proofs.Ytbmhkhdmedemaaa.Pure
