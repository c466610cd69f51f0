/- The law FnLeftFor holds for every input; nothing is assumed. -/
import Derived.Test.YtbmhkhdmedemaaaQFnLeftForx6
namespace Go.Proofs.Ytbmhkhdmedemaaa.Pure
open Go.RowKit Go.Proofs.Ytbmhkhdmedemaaa.PFnLeftFor Go.Proofs.YtbmhkhdmedemaaaW.PrintWords Go.Proofs.YtbmhkhdmedemaaaW.PrintLast Go.Proofs.YtbmhkhdmedemaaaW.PrintMore
set_option linter.unusedVariables false
set_option linter.unusedSimpArgs false
theorem ev_succ {α : Type} {g : Nat → Option α} {r : α} (h : Ev (fun k => g (k + 1)) r) : Ev g r := Ev.step (fun _ => rfl) h
theorem ev_pos {α : Type} {c : Prop} [Decidable c] {f g : Nat → Option α} {r : α} (h : c) (k : Ev f r) : Ev (fun n => if c then f n else g n) r := Ev.congr (fun _ => if_pos h) k
theorem ev_neg {α : Type} {c : Prop} [Decidable c] {f g : Nat → Option α} {r : α} (h : ¬c) (k : Ev g r) : Ev (fun n => if c then f n else g n) r := Ev.congr (fun _ => if_neg h) k
theorem ev_some {α : Type} {x r : α} (h : x = r) : Ev (fun _ => some x) r := h ▸ Ev.now x
theorem ev_to {α : Type} {g : Nat → Option α} {a r : α} (h : Ev g a) (e : a = r) : Ev g r := e ▸ h
/-- Whether P. -/
noncomputable def dec (P : Prop) : Bool := @decide P (Classical.propDecidable P)
theorem dec_iff {P : Prop} : dec P = true ↔ P := @decide_eq_true_iff P (Classical.propDecidable P)
theorem dec_pos {P : Prop} (h : P) : dec P = true := dec_iff.2 h
theorem dec_neg {P : Prop} (h : ¬P) : dec P = false := by
  cases e : dec P
  · rfl
  · exact absurd (dec_iff.1 e) h
theorem dec_congr {P Q : Prop} (h : P ↔ Q) : dec P = dec Q := by rw [propext h]
theorem dec_of {P : Prop} [Decidable P] : decide P = dec P := by
  by_cases h : P
  · rw [dec_pos h, decide_eq_true h]
  · rw [dec_neg h, decide_eq_false h]
theorem dec_bool {b : Bool} : b = dec (b = true) := by
  cases b
  · exact (dec_neg (by simp)).symm
  · exact (dec_pos rfl).symm
/-- From i on: at i, and from i + 1 on. -/
theorem from_step {i n : Nat} {Q : Nat → Prop} (h : i < n) : (∀ j, i ≤ j → j < n → Q j) ↔ Q i ∧ ∀ j, i + 1 ≤ j → j < n → Q j := by
  constructor
  · exact fun a => ⟨a i (Nat.le_refl _) h, fun j h1 h2 => a j (by omega) h2⟩
  · intro a j h1 h2
    by_cases e : j = i
    · exact e ▸ a.1
    · exact a.2 j (by omega) h2
theorem from_end {n : Nat} {Q : Nat → Prop} : ∀ j, n ≤ j → j < n → Q j := fun j h1 h2 => by omega
theorem wrap_id {x : Int} (h0 : -9223372036854775808 ≤ x) (h1 : x ≤ 9223372036854775807) : wrap64 x = x := by unfold wrap64; omega
theorem wrap_succ {i : Nat} (h : i ≤ 9223372036854775806) : wrap64 ((i : Int) + 1) = ((i + 1 : Nat) : Int) := by unfold wrap64; omega
theorem wrap_pred {i : Nat} (h : i ≤ 9223372036854775806) : wrap64 ((i : Int) - 1) = (i : Int) - 1 := by unfold wrap64; omega
/-- The bounds of a number of the kind int. -/
def I64 (x : Int) : Prop := -9223372036854775808 ≤ x ∧ x ≤ 9223372036854775807
theorem i64_wf {x : Int} (h : (Lit.int .i64 x).wf = true) : I64 x := by
  have h' : (decide (IntKind.i64.min ≤ x) && decide (x ≤ IntKind.i64.max)) = true := h
  have a : IntKind.i64.min = -9223372036854775808 := by decide
  have b : IntKind.i64.max = 9223372036854775807 := by decide
  rw [a, b] at h'
  simpa [I64] using h'
theorem sCustomer_nat (l : List S52) (i : Nat) : rd_T52 l (i : Int) = l.getD i z52 := rfl
theorem sCustomer_get {l : List S52} {i : Nat} (h : i < l.length) : rd_T52 l (i : Int) = l[i] := by
  rw [sCustomer_nat, List.getD_eq_getElem?_getD, List.getElem?_eq_getElem h]; rfl
theorem sCustomer_set (l : List S52) (i j : Nat) (v : S52) (h : i < l.length) : rd_T52 (l.set i v) (j : Int) = if j = i then v else rd_T52 l (j : Int) := by
  rw [sCustomer_nat, sCustomer_nat, List.getD_eq_getElem?_getD, List.getElem?_set]
  by_cases e : i = j
  · subst e; rw [if_pos rfl, if_pos h, if_pos rfl]; rfl
  · rw [if_neg e, if_neg (fun x => e x.symm), ← List.getD_eq_getElem?_getD]
theorem sCustomer_app (l : List S52) (v : S52) (j : Nat) : rd_T52 (l ++ [v]) (j : Int) = if j < l.length then rd_T52 l (j : Int) else if j = l.length then v else z52 := by
  rw [sCustomer_nat, sCustomer_nat, List.getD_eq_getElem?_getD, List.getD_eq_getElem?_getD, List.getElem?_append]
  by_cases h : j < l.length
  · rw [if_pos h, if_pos h]
  · rw [if_neg h, if_neg h]
    by_cases e : j = l.length
    · subst e; rw [if_pos rfl]; simp
    · rw [if_neg e, List.getElem?_eq_none (by simp; omega)]; rfl
theorem sCustomer_take (l : List S52) (n j : Nat) (h : j < n) : rd_T52 (l.take n) (j : Int) = rd_T52 l (j : Int) := by
  rw [sCustomer_nat, sCustomer_nat, List.getD_eq_getElem?_getD, List.getElem?_take, if_pos h, ← List.getD_eq_getElem?_getD]
theorem sCustomer_drop (l : List S52) (n j : Nat) : rd_T52 (l.drop n) (j : Int) = rd_T52 l ((n + j : Nat) : Int) := by
  rw [sCustomer_nat, sCustomer_nat, List.getD_eq_getElem?_getD, List.getElem?_drop, ← List.getD_eq_getElem?_getD]
theorem sCustomer_ext {a b : List S52} (hl : a.length = b.length) (h : ∀ j : Nat, j < a.length → rd_T52 a (j : Int) = rd_T52 b (j : Int)) : a = b := by
  refine List.ext_getElem hl fun j h1 h2 => ?_
  have := h j h1
  rw [sCustomer_get h1, sCustomer_get h2] at this
  exact this
def CIn (l : List S52) (j : Nat) : Prop := (0 ≤ (rd_T52 l (j : Int)).f0 ∧ (rd_T52 l (j : Int)).f0 ≤ 60) ∧ (1 ≤ (rd_T52 l (j : Int)).f1 ∧ (rd_T52 l (j : Int)).f1 ≤ 9) ∧ (0 < j → (rd_T52 l ((j : Int) - 1)).f0 ≤ (rd_T52 l (j : Int)).f0)
/-- Customers. -/
def COK (l : List S52) : Prop := (∀ j : Nat, 0 ≤ j → j < l.length → CIn l j) ∧ (l.length : Int) ≤ 8
def cc (l : List S52) (i : Nat) : Int := (rd_T52 l (i : Int)).f0
def pp (l : List S52) (i : Nat) : Int := (rd_T52 l (i : Int)).f1
theorem cc_in {l : List S52} (h : COK l) {i : Nat} (hi : i < l.length) : 0 ≤ cc l i ∧ cc l i ≤ 60 := (h.1 i (Nat.zero_le _) hi).1
theorem pp_in {l : List S52} (h : COK l) {i : Nat} (hi : i < l.length) : 1 ≤ pp l i ∧ pp l i ≤ 9 := (h.1 i (Nat.zero_le _) hi).2.1
theorem cc_step {l : List S52} (h : COK l) {i : Nat} (hi : i + 1 < l.length) : cc l i ≤ cc l (i + 1) := by
  have := (h.1 (i + 1) (Nat.zero_le _) hi).2.2 (by omega)
  rw [show (((i + 1 : Nat) : Int) - 1) = (i : Int) by omega] at this
  exact this
theorem cc_mono {l : List S52} (h : COK l) (j : Nat) : ∀ i : Nat, i ≤ j → j < l.length → cc l i ≤ cc l j := by
  induction j with
  | zero => intro i hi _; obtain rfl : i = 0 := by omega
            exact Int.le_refl _
  | succ j ih =>
    intro i hi hj
    by_cases e : i = j + 1
    · subst e; exact Int.le_refl _
    · have := ih i (by omega) (by omega)
      have := cc_step h hj
      omega
theorem clen {l : List S52} (h : COK l) : l.length ≤ 8 := by have := h.2; omega
/-- The end of what goes on at j with the end E. -/
def pe (l : List S52) : Nat → Nat → Int → Int
  | 0, _, E => E
  | d + 1, j, E => if cc l j < E then pe l d (j + 1) (E + pp l j) else E
/-- The end of the period of customer i. -/
def PEND (l : List S52) (i : Nat) : Int := pe l (l.length - 1 - i) (i + 1) (cc l i + pp l i)
theorem pe_in {l : List S52} (h : COK l) : ∀ (d j : Nat) (E : Int), j + d = l.length → E ≤ pe l d j E ∧ pe l d j E ≤ E + 9 * (d : Int)
  | 0, j, E, _ => by simp [pe]
  | d + 1, j, E, hj => by
    have p := pp_in h (i := j) (by omega)
    simp only [pe]
    split
    · have := pe_in h d (j + 1) (E + pp l j) (by omega)
      omega
    · omega
theorem PEND_in {l : List S52} (h : COK l) {i : Nat} (hi : i < l.length) : cc l i + pp l i ≤ PEND l i ∧ PEND l i ≤ 200 := by
  have a := pe_in h (l.length - 1 - i) (i + 1) (cc l i + pp l i) (by omega)
  have := cc_in h hi; have := pp_in h hi; have := clen h
  unfold PEND; omega
theorem pe_mono {l : List S52} (h : COK l) : ∀ (d j : Nat) (E E' : Int), j + d = l.length → E ≤ E' → pe l d j E ≤ pe l d j E'
  | 0, j, E, E', _, he => he
  | d + 1, j, E, E', hj, he => by
    have p := pp_in h (i := j) (by omega)
    simp only [pe]
    by_cases c : cc l j < E
    · rw [if_pos c, if_pos (by omega)]
      exact pe_mono h d (j + 1) _ _ (by omega) (by omega)
    · rw [if_neg c]
      split
      · have := (pe_in h d (j + 1) (E' + pp l j) (by omega)).1
        omega
      · exact he
theorem pe_within {l : List S52} (h : COK l) (a : Nat) (ha : a < l.length) : ∀ (d m : Nat) (E : Int), m + d = l.length → m ≤ a → cc l a < pe l d m E → PEND l a ≤ pe l d m E
  | 0, m, E, hm, hma, _ => by omega
  | d + 1, m, E, hm, hma, hlt => by
    have c1 := cc_mono h a m hma ha
    simp only [pe] at hlt ⊢
    by_cases c : cc l m < E
    · rw [if_pos c] at hlt ⊢
      by_cases e : m = a
      · subst e
        have := pe_mono h (l.length - 1 - m) (m + 1) (cc l m + pp l m) (E + pp l m) (by omega) (by omega)
        rw [show d = l.length - 1 - m by omega]
        exact this
      · exact pe_within h a ha d (m + 1) _ (by omega) (by omega) hlt
    · rw [if_neg c] at hlt; omega
/-- Periods are within each other. -/
theorem PEND_within {l : List S52} (h : COK l) {j a : Nat} (hj : j < a) (ha : a < l.length) (hlt : cc l a < PEND l j) : PEND l a ≤ PEND l j :=
  pe_within h a ha (l.length - 1 - j) (j + 1) _ (by omega) (by omega) hlt
/-- The last one of the first i whose period ends behind customer a's coming. -/
def lfa (l : List S52) (a : Nat) : Nat → Int
  | 0 => -1
  | i + 1 => if PEND l i > cc l a then (i : Int) else lfa l a i
theorem lfa_in (l : List S52) (a : Nat) : ∀ i : Nat, -1 ≤ lfa l a i ∧ lfa l a i < (i : Int)
  | 0 => by simp [lfa]
  | i + 1 => by
    have := lfa_in l a i
    simp only [lfa]; split <;> omega
theorem lfa_past (l : List S52) (a : Nat) : ∀ i j : Nat, j < i → lfa l a i < (j : Int) → PEND l j ≤ cc l a
  | i + 1, j, hj, h => by
    simp only [lfa] at h
    by_cases c : PEND l i > cc l a
    · rw [if_pos c] at h; omega
    · rw [if_neg c] at h
      by_cases e : j = i
      · subst e; omega
      · exact lfa_past l a i j (by omega) h
theorem lfa_there (l : List S52) (a : Nat) : ∀ i j : Nat, lfa l a i = (j : Int) → PEND l j > cc l a
  | 0, j, h => by simp only [lfa] at h; omega
  | i + 1, j, h => by
    simp only [lfa] at h
    by_cases c : PEND l i > cc l a
    · rw [if_pos c] at h
      obtain rfl : i = j := by omega
      exact c
    · rw [if_neg c] at h
      exact lfa_there l a i j h
/-- What LeftFor answers. -/
noncomputable def LFV (l : List S52) (a : Int) : Int := @ite _ (COK l ∧ 0 ≤ a ∧ a < (l.length : Int)) (Classical.propDecidable _) (lfa l a.toNat a.toNat) (-2)
theorem LFV_pos {l : List S52} {a : Nat} (h : COK l) (ha : a < l.length) : LFV l (a : Int) = lfa l a a := by unfold LFV; exact if_pos ⟨h, by omega, by omega⟩
theorem LFV_neg {l : List S52} {a : Int} (h : ¬(COK l ∧ 0 ≤ a ∧ a < (l.length : Int))) : LFV l a = -2 := by unfold LFV; exact if_neg h
/-- What PeriodFrom answers. -/
noncomputable def PFV (l : List S52) (a : Int) : Int := @ite _ (COK l ∧ 0 ≤ a ∧ a < (l.length : Int)) (Classical.propDecidable _) (PEND l a.toNat - cc l a.toNat) (-1)
theorem PFV_pos {l : List S52} {a : Nat} (h : COK l) (ha : a < l.length) : PFV l (a : Int) = PEND l a - cc l a := by unfold PFV; exact if_pos ⟨h, by omega, by omega⟩
theorem PFV_neg {l : List S52} {a : Int} (h : ¬(COK l ∧ 0 ≤ a ∧ a < (l.length : Int))) : PFV l a = -1 := by unfold PFV; exact if_neg h
theorem iperiodFrom_l0 {l : List S52} (h : COK l) (a : Nat) (ha : a < l.length) : ∀ (d j : Nat) (E : Int), j + d = l.length → cc l a ≤ E → E + 9 * (d : Int) ≤ 1000 → Ev (fun k => impl_periodFrom.l0 k l (a : Int) (E - cc l a) (j : Int)) (pe l d j E - cc l a) := by
  have n := clen h
  have ca := cc_in h ha
  intro d
  induction d with
  | zero =>
    intro j E hj hE hb
    refine ev_succ ?_
    simp only [impl_periodFrom.l0]
    exact ev_neg (by omega) (Ev.now _)
  | succ d ih =>
    intro j E hj hE hb
    have p := pp_in h (i := j) (by omega)
    have e1 : wrap64 ((rd_T52 l (a : Int)).f0 + (E - cc l a)) = E := by
      show wrap64 (cc l a + (E - cc l a)) = E
      rw [wrap_id (by omega) (by omega)]; omega
    have e2 : wrap64 (E - cc l a + (rd_T52 l (j : Int)).f1) = E + pp l j - cc l a := by
      show wrap64 (E - cc l a + pp l j) = _
      rw [wrap_id (by omega) (by omega)]; omega
    refine ev_succ ?_
    simp only [impl_periodFrom.l0, e1, e2, pe]
    rw [wrap_succ (i := j) (by omega)]
    refine ev_pos (by omega) (ev_pos (by omega) (ev_pos (by omega) (ev_pos (by omega) ?_)))
    by_cases c : cc l j < E
    · rw [if_pos c]
      exact ev_pos c (ih (j + 1) (E + pp l j) (by omega) (by omega) (by omega))
    · rw [if_neg c]
      exact ev_neg c (Ev.now _)
theorem iperiodFrom_ev {l : List S52} (h : COK l) (a : Nat) (ha : a < l.length) : Ev (fun k => impl_periodFrom.f k l (a : Int)) (PEND l a - cc l a) := by
  have n := clen h
  have ca := cc_in h ha
  have p := pp_in h ha
  unfold impl_periodFrom.f
  rw [wrap_succ (i := a) (by omega)]
  refine ev_pos (by omega) (ev_pos (by omega) ?_)
  have := iperiodFrom_l0 h a ha (l.length - 1 - a) (a + 1) (cc l a + pp l a) (by omega) (by omega) (by omega)
  rw [show cc l a + pp l a - cc l a = pp l a by omega] at this
  exact this
theorem ileftFor_l0 {l : List S52} (h : COK l) (a : Nat) (ha : a < l.length) : ∀ i : Nat, i ≤ a → Ev (fun k => impl_leftFor.l0 k l (a : Int) ((i : Int) - 1)) (lfa l a i) := by
  have n := clen h
  intro i
  induction i with
  | zero =>
    intro _
    refine ev_succ ?_
    simp only [impl_leftFor.l0]
    exact ev_neg (by omega) (Ev.now _)
  | succ i ih =>
    intro hi
    have q := PEND_in h (i := i) (by omega)
    have ci := cc_in h (i := i) (by omega)
    have pi := pp_in h (i := i) (by omega)
    have e1 : wrap64 ((rd_T52 l (i : Int)).f0 + (PEND l i - cc l i)) = PEND l i := by
      show wrap64 (cc l i + (PEND l i - cc l i)) = _
      rw [wrap_id (by omega) (by omega)]; omega
    refine ev_succ ?_
    rw [show ((i + 1 : Nat) : Int) - 1 = (i : Int) by omega]
    simp only [impl_leftFor.l0, lfa]
    rw [wrap_pred (i := i) (by omega)]
    refine ev_pos (by omega) (ev_pos (by omega) (ev_pos (by omega) (Ev.bind (iperiodFrom_ev h i (by omega)) (ev_pos (by omega) (ev_pos (by omega) ?_)))))
    rw [e1]
    by_cases c : PEND l i > cc l a
    · rw [if_pos c]; exact ev_pos c (Ev.now _)
    · rw [if_neg c]; exact ev_neg c (ih (by omega))
theorem ileftFor_ev {l : List S52} (h : COK l) (a : Nat) (ha : a < l.length) : Ev (fun k => impl_leftFor.f k l (a : Int)) (lfa l a a) := by
  unfold impl_leftFor.f
  rw [wrap_pred (i := a) (by have := clen h; omega)]
  exact ileftFor_l0 h a ha a (Nat.le_refl _)
theorem iCustomersOk_l0 (l : List S52) (hl : l.length ≤ 9223372036854775806) : ∀ d i : Nat, i + d = l.length →
    Ev (fun k => impl_CustomersOk.l0 k l l (l.length : Int) (i : Int)) (dec ((∀ j : Nat, i ≤ j → j < l.length → CIn l j) ∧ (l.length : Int) ≤ 8)) := by
  intro d
  induction d with
  | zero =>
    intro i hi
    refine ev_succ ?_
    simp only [impl_CustomersOk.l0]
    refine ev_neg (by omega) (ev_some ?_)
    obtain rfl : i = l.length := by omega
    rw [dec_of]
    exact dec_congr ⟨fun h => ⟨from_end, h⟩, fun h => h.2⟩
  | succ d ih =>
    intro i hi
    refine ev_succ ?_
    simp only [impl_CustomersOk.l0]
    have hs := from_step (i := i) (n := l.length) (Q := fun j => CIn l j) (by omega)
    refine ev_pos (by omega) (ev_pos (by omega) (ev_pos (by omega) ?_))
    by_cases h1 : (rd_T52 l (i : Int)).f0 < 0
    · exact ev_pos h1 (ev_some (dec_neg (fun x => by have := (hs.1 x.1).1.1.1; omega)).symm)
    refine ev_neg h1 ?_
    by_cases h2 : (rd_T52 l (i : Int)).f0 > 60
    · exact ev_pos h2 (ev_some (dec_neg (fun x => by have := (hs.1 x.1).1.1.2; omega)).symm)
    refine ev_neg h2 ?_
    rw [wrap_succ (by omega), wrap_pred (by omega)]
    have fin : (0 < i → (rd_T52 l ((i : Int) - 1)).f0 ≤ (rd_T52 l (i : Int)).f0) → Ev (fun k => if (rd_T52 l (i : Int)).f1 < 1 then some false else if (rd_T52 l (i : Int)).f1 > 9 then some false else impl_CustomersOk.l0 k l l (l.length : Int) ((i + 1 : Nat) : Int)) (dec ((∀ j : Nat, i ≤ j → j < l.length → CIn l j) ∧ (l.length : Int) ≤ 8)) := by
      intro hp
      by_cases h3 : (rd_T52 l (i : Int)).f1 < 1
      · exact ev_pos h3 (ev_some (dec_neg (fun x => by have := (hs.1 x.1).1.2.1.1; omega)).symm)
      refine ev_neg h3 ?_
      by_cases h4 : (rd_T52 l (i : Int)).f1 > 9
      · exact ev_pos h4 (ev_some (dec_neg (fun x => by have := (hs.1 x.1).1.2.1.2; omega)).symm)
      refine ev_neg h4 (ev_to (ih (i + 1) (by omega)) (dec_congr ?_))
      rw [hs]
      exact ⟨fun x => ⟨⟨⟨⟨by omega, by omega⟩, ⟨by omega, by omega⟩, hp⟩, x.1⟩, x.2⟩, fun x => ⟨x.1.2, x.2⟩⟩
    by_cases h5 : (i : Int) > 0
    · refine ev_pos h5 (ev_pos (by omega) (ev_pos (by omega) ?_))
      by_cases h6 : (rd_T52 l (i : Int)).f0 < (rd_T52 l ((i : Int) - 1)).f0
      · exact ev_pos h6 (ev_some (dec_neg (fun x => by have := (hs.1 x.1).1.2.2 (by omega); omega)).symm)
      · exact ev_neg h6 (fin (fun _ => by omega))
    · exact ev_neg h5 (fin (fun h => by omega))
theorem iCustomersOk_ev (l : List S52) (hl : l.length ≤ 9223372036854775806) : Ev (fun k => impl_CustomersOk.f k l) (dec (COK l)) := iCustomersOk_l0 l hl l.length 0 (by omega)
theorem iLeftFor_ev (l : List S52) (a : Int) (hl : l.length ≤ 9223372036854775806) : Ev (fun k => impl_LeftFor.f k l a) (LFV l a) := by
  unfold impl_LeftFor.f
  refine Ev.bind (iCustomersOk_ev l hl) ?_
  by_cases h : COK l
  · refine ev_pos (dec_pos h) ?_
    by_cases h0 : a < 0
    · exact ev_pos h0 (ev_some (LFV_neg (by omega)).symm)
    · refine ev_neg h0 ?_
      by_cases h1 : a ≥ (l.length : Int)
      · exact ev_pos h1 (ev_some (LFV_neg (by omega)).symm)
      · obtain ⟨m, rfl⟩ := Int.eq_ofNat_of_zero_le (show 0 ≤ a by omega)
        rw [LFV_pos h (by omega)]
        exact ev_neg h1 (Ev.bind (ileftFor_ev h m (by omega)) (Ev.now _))
  · exact ev_neg (by rw [dec_neg h]; simp) (ev_some (LFV_neg (fun x => h x.1)).symm)
theorem l1In_eq (a b c : Int) : spec_l1In.f a b c = some (dec (b ≤ a ∧ a ≤ c)) := by
  unfold spec_l1In.f
  by_cases h : a ≥ b
  · rw [if_pos h]
    by_cases h2 : a ≤ c
    · rw [decide_eq_true h2, dec_pos ⟨h, h2⟩]
    · rw [decide_eq_false h2, dec_neg (fun x => h2 x.2)]
  · rw [if_neg h, dec_neg (fun x => h x.1)]
theorem l1In_ev (a b c : Int) : Ev (fun _ => spec_l1In.f a b c) (dec (b ≤ a ∧ a ≤ c)) := Ev.congr (fun _ => l1In_eq a b c) (Ev.now _)
theorem sCustomersOk_l0 (l : List S52) (hl : l.length ≤ 9223372036854775806) : ∀ d i : Nat, i + d = l.length →
    Ev (fun k => spec_CustomersOk.l0 k l (i : Int)) (dec ((∀ j : Nat, i ≤ j → j < l.length → CIn l j) ∧ (l.length : Int) ≤ 8)) := by
  intro d
  induction d with
  | zero =>
    intro i hi
    refine ev_succ ?_
    simp only [spec_CustomersOk.l0]
    refine ev_neg (by omega) (ev_some ?_)
    obtain rfl : i = l.length := by omega
    rw [dec_of]
    exact dec_congr ⟨fun h => ⟨from_end, h⟩, fun h => h.2⟩
  | succ d ih =>
    intro i hi
    refine ev_succ ?_
    simp only [spec_CustomersOk.l0]
    have hs := from_step (i := i) (n := l.length) (Q := fun j => CIn l j) (by omega)
    refine ev_pos (by omega) (ev_pos (by omega) (Ev.bind (l1In_ev _ _ _) ?_))
    by_cases h1 : 0 ≤ (rd_T52 l (i : Int)).f0 ∧ (rd_T52 l (i : Int)).f0 ≤ 60
    · refine ev_pos (dec_pos h1) (Ev.bind (l1In_ev _ _ _) ?_)
      by_cases h2 : 1 ≤ (rd_T52 l (i : Int)).f1 ∧ (rd_T52 l (i : Int)).f1 ≤ 9
      · refine ev_pos (dec_pos h2) ?_
        rw [wrap_succ (by omega), wrap_pred (by omega)]
        by_cases h3 : (i : Int) > 0
        · refine ev_pos h3 (ev_pos (by omega) (ev_pos (by omega) ?_))
          by_cases h4 : (rd_T52 l (i : Int)).f0 < (rd_T52 l ((i : Int) - 1)).f0
          · exact ev_pos h4 (ev_some (dec_neg (fun x => by have := (hs.1 x.1).1.2.2 (by omega); omega)).symm)
          · refine ev_neg h4 (ev_to (ih (i + 1) (by omega)) (dec_congr ?_))
            rw [hs]
            exact ⟨fun x => ⟨⟨⟨h1, h2, fun _ => by omega⟩, x.1⟩, x.2⟩, fun x => ⟨x.1.2, x.2⟩⟩
        · refine ev_neg h3 (ev_to (ih (i + 1) (by omega)) (dec_congr ?_))
          rw [hs]
          exact ⟨fun x => ⟨⟨⟨h1, h2, fun _ => by omega⟩, x.1⟩, x.2⟩, fun x => ⟨x.1.2, x.2⟩⟩
      · exact ev_neg (by rw [dec_neg h2]; simp) (ev_some (dec_neg (fun x => h2 (hs.1 x.1).1.2.1)).symm)
    · exact ev_neg (by rw [dec_neg h1]; simp) (ev_some (dec_neg (fun x => h1 (hs.1 x.1).1.1)).symm)
theorem sCustomersOk_ev (l : List S52) (hl : l.length ≤ 9223372036854775806) : Ev (fun k => spec_CustomersOk.f k l) (dec (COK l)) := sCustomersOk_l0 l hl l.length 0 (by omega)
theorem sPeriodFrom_l0 {l : List S52} (h : COK l) (a : Nat) (ha : a < l.length) : ∀ (d j : Nat) (E : Int), j + d = l.length → cc l a ≤ E → E + 9 * (d : Int) ≤ 1000 → Ev (fun k => spec_PeriodFrom.l0 k l (a : Int) E (j : Int)) (pe l d j E - cc l a) := by
  have n := clen h
  have ca := cc_in h ha
  intro d
  induction d with
  | zero =>
    intro j E hj hE hb
    refine ev_succ ?_
    simp only [spec_PeriodFrom.l0]
    refine ev_neg (by omega) (ev_pos (by omega) (ev_pos (by omega) (ev_some ?_)))
    exact wrap_id (by show _ ≤ E - cc l a; omega) (by show E - cc l a ≤ _; omega)
  | succ d ih =>
    intro j E hj hE hb
    have p := pp_in h (i := j) (by omega)
    have e1 : wrap64 (E - (rd_T52 l (a : Int)).f0) = E - cc l a := wrap_id (by show _ ≤ E - cc l a; omega) (by show E - cc l a ≤ _; omega)
    have e2 : wrap64 (E + (rd_T52 l (j : Int)).f1) = E + pp l j := wrap_id (by show _ ≤ E + pp l j; omega) (by show E + pp l j ≤ _; omega)
    refine ev_succ ?_
    simp only [spec_PeriodFrom.l0, e1, e2, pe]
    rw [wrap_succ (i := j) (by omega)]
    refine ev_pos (by omega) (ev_pos (by omega) ?_)
    by_cases c : cc l j < E
    · rw [if_pos c]
      exact ev_pos c (ih (j + 1) (E + pp l j) (by omega) (by omega) (by omega))
    · rw [if_neg c]
      exact ev_neg c (ev_pos (by omega) (ev_pos (by omega) (Ev.now _)))
theorem sPeriodFrom_ev (l : List S52) (a : Int) (hl : l.length ≤ 9223372036854775806) : Ev (fun k => spec_PeriodFrom.f k l a) (PFV l a) := by
  unfold spec_PeriodFrom.f
  have no : ∀ b : Bool, b = true → PFV l a = -1 → Ev (fun k => spec_PeriodFrom.j0 k l a b) (PFV l a) := by
    intro b hb he
    refine ev_succ ?_
    simp only [spec_PeriodFrom.j0]
    exact ev_pos hb (ev_some he.symm)
  refine Ev.bind (sCustomersOk_ev l hl) ?_
  by_cases h : COK l
  · refine ev_pos (dec_pos h) (Ev.bind (l1In_ev _ _ _) ?_)
    rw [wrap_id (x := (l.length : Int) - 1) (by omega) (by omega)]
    by_cases h0 : 0 ≤ a ∧ a ≤ (l.length : Int) - 1
    · obtain ⟨m, rfl⟩ := Int.eq_ofNat_of_zero_le h0.1
      have hm : m < l.length := by omega
      have ca := cc_in h hm
      have p := pp_in h hm
      have n := clen h
      rw [PFV_pos h hm, dec_pos h0]
      refine ev_succ ?_
      simp only [spec_PeriodFrom.j0]
      have e2 : wrap64 ((rd_T52 l (m : Int)).f0 + (rd_T52 l (m : Int)).f1) = cc l m + pp l m := wrap_id (by show _ ≤ cc l m + pp l m; omega) (by show cc l m + pp l m ≤ _; omega)
      rw [e2, wrap_succ (i := m) (by omega)]
      exact ev_neg (by simp) (ev_pos (by omega) (ev_pos (by omega) (sPeriodFrom_l0 h m hm (l.length - 1 - m) (m + 1) _ (by omega) (by omega) (by omega))))
    · exact no _ (by rw [dec_neg h0]; rfl) (PFV_neg (fun x => h0 ⟨x.2.1, by omega⟩))
  · exact ev_neg (by rw [dec_neg h]; simp) (no _ rfl (PFV_neg (fun x => h x.1)))
theorem sLeftFor_l0 {l : List S52} (h : COK l) (a : Nat) (ha : a < l.length) : ∀ i : Nat, i ≤ a → Ev (fun k => spec_LeftFor.l0 k l (a : Int) ((i : Int) - 1)) (lfa l a i) := by
  have n := clen h
  intro i
  induction i with
  | zero =>
    intro _
    refine ev_succ ?_
    simp only [spec_LeftFor.l0]
    exact ev_neg (by omega) (Ev.now _)
  | succ i ih =>
    intro hi
    have q := PEND_in h (i := i) (by omega)
    have ci := cc_in h (i := i) (by omega)
    have pi := pp_in h (i := i) (by omega)
    have e1 : wrap64 ((rd_T52 l (i : Int)).f0 + (PEND l i - cc l i)) = PEND l i := by
      show wrap64 (cc l i + (PEND l i - cc l i)) = _
      rw [wrap_id (by omega) (by omega)]; omega
    have sp := sPeriodFrom_ev l (i : Int) (by omega)
    rw [PFV_pos h (by omega)] at sp
    refine ev_succ ?_
    rw [show ((i + 1 : Nat) : Int) - 1 = (i : Int) by omega]
    simp only [spec_LeftFor.l0, lfa]
    rw [wrap_pred (i := i) (by omega)]
    refine ev_pos (by omega) (ev_pos (by omega) (ev_pos (by omega) (Ev.bind sp (ev_pos (by omega) (ev_pos (by omega) ?_)))))
    rw [e1]
    by_cases c : PEND l i > cc l a
    · rw [if_pos c]; exact ev_pos c (Ev.now _)
    · rw [if_neg c]; exact ev_neg c (ih (by omega))
theorem sLeftFor_ev (l : List S52) (a : Int) (hl : l.length ≤ 9223372036854775806) : Ev (fun k => spec_LeftFor.f k l a) (LFV l a) := by
  unfold spec_LeftFor.f
  have no : ∀ b : Bool, b = true → LFV l a = -2 → Ev (fun k => spec_LeftFor.j0 k l a b) (LFV l a) := by
    intro b hb he
    refine ev_succ ?_
    simp only [spec_LeftFor.j0]
    exact ev_pos hb (ev_some he.symm)
  refine Ev.bind (sCustomersOk_ev l hl) ?_
  by_cases h : COK l
  · refine ev_pos (dec_pos h) (Ev.bind (l1In_ev _ _ _) ?_)
    rw [wrap_id (x := (l.length : Int) - 1) (by omega) (by omega)]
    by_cases h0 : 0 ≤ a ∧ a ≤ (l.length : Int) - 1
    · obtain ⟨m, rfl⟩ := Int.eq_ofNat_of_zero_le h0.1
      have hm : m < l.length := by omega
      rw [LFV_pos h hm, dec_pos h0]
      refine ev_succ ?_
      simp only [spec_LeftFor.j0]
      rw [wrap_pred (i := m) (by have := clen h; omega)]
      exact ev_neg (by simp) (sLeftFor_l0 h m hm m (Nat.le_refl _))
    · exact no _ (by rw [dec_neg h0]; rfl) (LFV_neg (fun x => h0 ⟨x.2.1, by omega⟩))
  · exact ev_neg (by rw [dec_neg h]; simp) (no _ rfl (LFV_neg (fun x => h x.1)))
theorem rd_nat (l : List Int) (i : Nat) : rd l (i : Int) = l.getD i 0 := rfl
theorem rd_set (l : List Int) (i j : Nat) (v : Int) (h : i < l.length) : rd (l.set i v) (j : Int) = if j = i then v else rd l (j : Int) := by
  rw [rd_nat, rd_nat, List.getD_eq_getElem?_getD, List.getElem?_set]
  by_cases e : i = j
  · subst e; rw [if_pos rfl, if_pos h, if_pos rfl]; rfl
  · rw [if_neg e, if_neg (fun x => e x.symm), ← List.getD_eq_getElem?_getD]
theorem rd_app (l : List Int) (v : Int) (j : Nat) : rd (l ++ [v]) (j : Int) = if j < l.length then rd l (j : Int) else if j = l.length then v else 0 := by
  rw [rd_nat, rd_nat, List.getD_eq_getElem?_getD, List.getD_eq_getElem?_getD, List.getElem?_append]
  by_cases h : j < l.length
  · rw [if_pos h, if_pos h]
  · rw [if_neg h, if_neg h]
    by_cases e : j = l.length
    · subst e; rw [if_pos rfl]; simp
    · rw [if_neg e, List.getElem?_eq_none (by simp; omega)]; rfl
theorem rd_take (l : List Int) (n j : Nat) (h : j < n) : rd (l.take n) (j : Int) = rd l (j : Int) := by
  rw [rd_nat, rd_nat, List.getD_eq_getElem?_getD, List.getElem?_take, if_pos h, ← List.getD_eq_getElem?_getD]
theorem rd_ext {a b : List Int} (hl : a.length = b.length) (h : ∀ j : Nat, j < a.length → rd a (j : Int) = rd b (j : Int)) : a = b := by
  refine List.ext_getElem hl fun j h1 h2 => ?_
  have := h j h1
  rw [rd_nat, rd_nat, List.getD_eq_getElem?_getD, List.getD_eq_getElem?_getD, List.getElem?_eq_getElem h1, List.getElem?_eq_getElem h2] at this
  exact this
theorem rd_out (l : List Int) (j : Nat) (h : l.length ≤ j) : rd l (j : Int) = 0 := by
  rw [rd_nat, List.getD_eq_getElem?_getD, List.getElem?_eq_none h]; rfl
theorem rd_mem {l : List Int} {j : Nat} (h : j < l.length) : rd l (j : Int) ∈ l := by
  rw [rd_nat, List.getD_eq_getElem?_getD, List.getElem?_eq_getElem h]; exact List.getElem_mem h
theorem rd_repl (n j : Nat) : rd (List.replicate n (0 : Int)) (j : Int) = 0 := by
  rw [rd_nat, List.getD_eq_getElem?_getD, List.getElem?_replicate]; split <;> rfl
/-- Bytes. -/
def BY (l : List Int) : Prop := l.length ≤ 2000 ∧ ∀ j : Nat, j < l.length → 0 ≤ rd l (j : Int) ∧ rd l (j : Int) ≤ 255
theorem by_of {l : List Int} (h : ∀ x ∈ l, (Lit.int .u8 x).wf = true) (j : Nat) (hj : j < l.length) : 0 ≤ rd l (j : Int) ∧ rd l (j : Int) ≤ 255 := by
  have h1 := h _ (rd_mem hj)
  have h2 : (decide (IntKind.u8.min ≤ rd l (j : Int)) && decide (rd l (j : Int) ≤ IntKind.u8.max)) = true := h1
  have a : IntKind.u8.min = 0 := by decide
  have b : IntKind.u8.max = 255 := by decide
  rw [a, b] at h2
  simpa using h2
theorem xor_nonneg {a b : Int} (ha : 0 ≤ a) (ha2 : a < 4611686018427387904) (hb : 0 ≤ b) (hb2 : b < 4611686018427387904) : 0 ≤ Go.bits .xor .i64 a b := by
  obtain ⟨m, rfl⟩ := Int.eq_ofNat_of_zero_le ha
  obtain ⟨n, rfl⟩ := Int.eq_ofNat_of_zero_le hb
  have hm : m < 2 ^ 62 := by omega
  have hn : n < 2 ^ 62 := by omega
  have hx : m ^^^ n < 2 ^ 62 := Nat.xor_lt_two_pow hm hn
  have e : Go.bits .xor .i64 (m : Int) (n : Int) = Go.IntKind.wrap .i64 ((m ^^^ n : Nat) : Int) := by
    show Go.IntKind.wrap .i64 ((BitVec.ofInt 64 (m : Int) ^^^ BitVec.ofInt 64 (n : Int)).toNat : Int) = _
    rw [BitVec.ofInt_natCast, BitVec.ofInt_natCast, BitVec.toNat_xor, BitVec.toNat_ofNat, BitVec.toNat_ofNat, Nat.mod_eq_of_lt (by omega), Nat.mod_eq_of_lt (by omega)]
  rw [e, Go.IntKind.wrap_i64]
  omega
theorem tmod_in {x n : Int} (h : 0 ≤ x) (hn : 0 < n) : 0 ≤ Int.tmod x n ∧ Int.tmod x n < n := ⟨Int.tmod_nonneg _ h, Int.tmod_lt_of_pos _ hn⟩
theorem rd_by {l : List Int} (h : BY l) (x : Int) (h0 : 0 ≤ x) (h1 : x < (l.length : Int)) : 0 ≤ rd l x ∧ rd l x ≤ 255 := by
  obtain ⟨m, rfl⟩ := Int.eq_ofNat_of_zero_le h0
  exact h.2 m (by omega)
theorem pick_ev {l : List Int} (h : BY l) {p : Int} (h0 : 0 ≤ p) (hp : p ≤ 1073741824) (n : Int) : ∃ v, Ev (fun k => spec_l20Rd_pick.f k l p n) (v, p + 1) ∧ 0 ≤ v ∧ (0 < n → v < n) := by
  unfold spec_l20Rd_pick.f
  rw [wrap_id (x := p + 1) (by omega) (by omega)]
  by_cases hn : n < 1
  · refine ⟨0, ev_pos hn (ev_succ ?_), Int.le_refl _, fun h => h⟩
    simp only [spec_l20Rd_pick.j0]
    exact ev_pos (by simp) (Ev.now _)
  · have hl := h.1
    by_cases hz : l.length = 0
    · refine ⟨0, ev_neg hn (ev_succ ?_), Int.le_refl _, fun h => h⟩
      simp only [spec_l20Rd_pick.j0]
      exact ev_pos (by simp [hz]) (Ev.now _)
    · have e1 : wrap64 (p + 1 - 1) = p := by rw [wrap_id (by omega) (by omega)]; omega
      by_cases hlt : p < (l.length : Int)
      · have hb := rd_by h p h0 hlt
        refine ⟨Int.tmod (wrap64 (rd l p)) n, ev_neg hn (ev_succ ?_), ?_⟩
        · simp only [spec_l20Rd_pick.j0, e1]
          exact ev_neg (by rw [beq_iff_eq]; omega) (ev_pos hlt (ev_pos h0 (ev_neg (by omega) (Ev.now _))))
        · rw [wrap_id (by omega) (by omega)]
          exact ⟨(tmod_in hb.1 (by omega)).1, fun _ => (tmod_in hb.1 (by omega)).2⟩
      · have b1 := tmod_in h0 (n := (l.length : Int)) (by omega)
        have r1 := rd_by h _ b1.1 b1.2
        have e2 : wrap64 (wrap64 (p * 7) + 3) = p * 7 + 3 := by rw [wrap_id (x := p * 7) (by omega) (by omega), wrap_id (by omega) (by omega)]
        have b2 := tmod_in (x := p * 7 + 3) (by omega) (n := (l.length : Int)) (by omega)
        have r2 := rd_by h _ b2.1 b2.2
        have d1 : 0 ≤ Int.tdiv p (l.length : Int) := Int.tdiv_nonneg h0 (by omega)
        have d2 : Int.tdiv p (l.length : Int) ≤ p := Int.tdiv_le_self _ h0
        obtain ⟨x, hx⟩ : ∃ x, x = rd l (Int.tmod p (l.length : Int)) * 131 + rd l (Int.tmod (p * 7 + 3) (l.length : Int)) * 1117 + p * 29 + Int.tdiv p (l.length : Int) * 53 := ⟨_, rfl⟩
        have ex : wrap64 (wrap64 (wrap64 (wrap64 (wrap64 (rd l (Int.tmod p (l.length : Int))) * 131) + wrap64 (wrap64 (rd l (Int.tmod (p * 7 + 3) (l.length : Int))) * 1117)) + wrap64 (p * 29)) + wrap64 (wrap64 (Int.tdiv p (l.length : Int)) * 53)) = x := by
          rw [wrap_id (x := rd l (Int.tmod p (l.length : Int))) (by omega) (by omega), wrap_id (x := rd l (Int.tmod (p * 7 + 3) (l.length : Int))) (by omega) (by omega), wrap_id (x := Int.tdiv p (l.length : Int)) (by omega) (by omega),
            wrap_id (x := rd l (Int.tmod p (l.length : Int)) * 131) (by omega) (by omega), wrap_id (x := rd l (Int.tmod (p * 7 + 3) (l.length : Int)) * 1117) (by omega) (by omega), wrap_id (x := p * 29) (by omega) (by omega),
            wrap_id (x := Int.tdiv p (l.length : Int) * 53) (by omega) (by omega), wrap_id (x := rd l (Int.tmod p (l.length : Int)) * 131 + _) (by omega) (by omega), wrap_id (x := rd l (Int.tmod p (l.length : Int)) * 131 + rd l (Int.tmod (p * 7 + 3) (l.length : Int)) * 1117 + p * 29) (by omega) (by omega), wrap_id (by omega) (by omega), hx]
        have hx0 : 0 ≤ x := by omega
        have hx1 : x < 4611686018427387904 := by omega
        have d3 : 0 ≤ Int.tdiv x 64 := Int.tdiv_nonneg hx0 (by omega)
        have d4 : Int.tdiv x 64 ≤ x := Int.tdiv_le_self _ hx0
        have e3 : wrap64 (Int.tdiv x 64) = Int.tdiv x 64 := wrap_id (by omega) (by omega)
        have hxor := xor_nonneg hx0 hx1 d3 (by omega)
        refine ⟨Int.tmod (Go.bits .xor .i64 x (Int.tdiv x 64)) n, ev_neg hn (ev_succ ?_), (tmod_in hxor (by omega)).1, fun _ => (tmod_in hxor (by omega)).2⟩
        simp only [spec_l20Rd_pick.j0, e1, e2, ex, e3]
        exact ev_neg (by rw [beq_iff_eq]; omega) (ev_neg hlt (ev_neg (by omega) (ev_pos b1.1 (ev_pos b1.2 (ev_pos b2.1 (ev_pos b2.2 (ev_neg (by omega) (Ev.now _))))))))
theorem odd_ev {l : List Int} (h : BY l) {p : Int} (h0 : 0 ≤ p) (hp : p ≤ 1073741824) (n : Int) : ∃ b q, Ev (fun k => spec_l20Rd_odd.f k l p n) (b, q) ∧ 0 ≤ q ∧ q ≤ p + 1 := by
  unfold spec_l20Rd_odd.f
  by_cases hn : n > 0
  · obtain ⟨v, hv, _⟩ := pick_ev h h0 hp n
    exact ⟨_, _, ev_pos hn (Ev.bind hv (Ev.now _)), by simp only; omega, by simp only; omega⟩
  · exact ⟨_, _, ev_neg hn (Ev.now _), h0, by omega⟩
theorem l20Customers_l0 {B : List Int} (h : BY B) (n wide hi : Int) (hw : 1 ≤ wide ∧ wide ≤ 5) (hh : 1 ≤ hi ∧ hi ≤ 9) : ∀ (d : Nat) (o : List S52) (t p : Int), 0 ≤ p → p + 2 * d ≤ 1073741000 → o.length + d ≤ 100 →
    ∃ c q, Ev (fun k => spec_l20Customers.l0 k n o t wide hi (d : Int) B p) (c, q) ∧ c.length ≤ 101 ∧ 0 ≤ q ∧ q ≤ p + 2 * d + 3 := by
  intro d
  induction d with
  | zero =>
    intro o t p h0 hp ho
    obtain ⟨b, q, hb, hq0, hq⟩ := odd_ev h h0 (by omega) n
    cases b with
    | true =>
      obtain ⟨v, hv, hv0, hv3⟩ := pick_ev h hq0 (by omega) 3
      by_cases e0 : v = 0
      · refine ⟨[⟨3, 1⟩, ⟨2, 1⟩], q + 1, ev_succ ?_, by simp, by omega, by omega⟩
        simp only [spec_l20Customers.l0]
        exact ev_neg (by simp) (Ev.bind hb (ev_pos rfl (Ev.bind hv (ev_pos e0 (Ev.now _)))))
      · by_cases e1 : v = 1
        · refine ⟨o ++ [⟨60, 0⟩], q + 1, ev_succ ?_, by simp; omega, by omega, by omega⟩
          simp only [spec_l20Customers.l0]
          exact ev_neg (by simp) (Ev.bind hb (ev_pos rfl (Ev.bind hv (ev_neg e0 (ev_pos e1 (ev_pos (by omega) (Ev.now _)))))))
        · obtain ⟨u, hu, hu0, hu2⟩ := pick_ev h (p := q + 1) (by omega) (by omega) 2
          have hu2 := hu2 (by omega)
          refine ⟨[⟨rd [-1, 61] u, 1⟩], q + 1 + 1, ev_succ ?_, by simp, by omega, by omega⟩
          simp only [spec_l20Customers.l0]
          exact ev_neg (by simp) (Ev.bind hb (ev_pos rfl (Ev.bind hv (ev_neg e0 (ev_neg e1 (Ev.bind (Ev.now _) (Ev.bind hu (ev_pos hu0 (ev_pos (by simp; omega) (Ev.now _))))))))))
    | false =>
      refine ⟨o, q, ev_succ ?_, by omega, by omega, by omega⟩
      simp only [spec_l20Customers.l0]
      exact ev_neg (by simp) (Ev.bind hb (ev_neg (by simp) (Ev.now _)))
  | succ d ih =>
    intro o t p h0 hp ho
    obtain ⟨v, hv, hv0, _⟩ := pick_ev h h0 (by omega) hi
    obtain ⟨u, hu, hu0, _⟩ := pick_ev h (p := p + 1) (by omega) (by omega) (wrap64 (wide + 1))
    obtain ⟨c, q, ht, hl, hq0, hq⟩ := ih (o ++ [⟨t, wrap64 (1 + v)⟩]) (wrap64 (t + u)) (p + 1 + 1) (by omega) (by omega) (by simp; omega)
    refine ⟨c, q, ev_succ ?_, hl, hq0, by omega⟩
    simp only [spec_l20Customers.l0]
    refine ev_pos (by omega) (Ev.bind hv (ev_pos (by omega) (Ev.bind hu ?_)))
    rw [show wrap64 (((d + 1 : Nat) : Int) - 1) = (d : Int) by rw [wrap_id (by omega) (by omega)]; omega]
    exact ht
theorem l20Customers_ev {B : List Int} (h : BY B) {p : Int} (h0 : 0 ≤ p) (hp : p ≤ 1000000) (n : Int) : ∃ c q, Ev (fun k => spec_l20Customers.f k B p n) (c, q) ∧ c.length ≤ 101 ∧ 0 ≤ q ∧ q ≤ p + 30 := by
  unfold spec_l20Customers.f
  obtain ⟨t, ht, _, _⟩ := pick_ev h h0 (by omega) 3
  obtain ⟨w, hw, hw0, hw5⟩ := pick_ev h (p := p + 1) (by omega) (by omega) 5
  obtain ⟨v, hv, hv0, hv2⟩ := pick_ev h (p := p + 1 + 1) (by omega) (by omega) 2
  obtain ⟨u, hu, hu0, hu9⟩ := pick_ev h (p := p + 1 + 1 + 1) (by omega) (by omega) 9
  have hw5 := hw5 (by omega)
  have hh : 1 ≤ rd [3, 9] v ∧ rd [3, 9] v ≤ 9 := by
    have : v = 0 ∨ v = 1 := by have := hv2 (by omega); omega
    rcases this with rfl | rfl <;> decide
  have hv2 := hv2 (by omega)
  have hu9 := hu9 (by omega)
  obtain ⟨d, rfl⟩ := Int.eq_ofNat_of_zero_le hu0
  obtain ⟨c, q, hc, hl, hq0, hq⟩ := l20Customers_l0 h n (wrap64 (1 + w)) _ (by rw [wrap_id (by omega) (by omega)]; omega) hh d [] t (p + 1 + 1 + 1 + 1) (by omega) (by omega) (by simp; omega)
  exact ⟨c, q, Ev.bind ht (Ev.bind hw (Ev.bind (Ev.now _) (Ev.bind hv (ev_pos hv0 (ev_pos (by simp; omega) (Ev.bind hu hc)))))), hl, hq0, by omega⟩
theorem l20Placed_ev {B : List Int} (h : BY B) : ∃ c a q, Ev (fun k => spec_l20Placed.f k B 0) (c, a, q) ∧ c.length ≤ 101 := by
  unfold spec_l20Placed.f
  obtain ⟨c, q, hc, hl, hq0, hq⟩ := l20Customers_ev h (p := 0) (by omega) (by omega) 12
  obtain ⟨v, hv, _, _⟩ := pick_ev h hq0 (by omega) (wrap64 ((c.length : Int) + 1))
  obtain ⟨u, hu, _, _⟩ := pick_ev h (p := q + 1) (by omega) (by omega) 20
  exact ⟨c, wrap64 (v - wrap64 (Int.tdiv u 19)), q + 1 + 1, Ev.bind hc (Ev.bind hv (Ev.bind hu (Ev.now _))), hl⟩
theorem open_ev {l : List Int} (h : ∀ x ∈ l, (Lit.int .u8 x).wf = true) : ∃ q, BY q ∧ Ev (fun _ => spec_l20Open.f l) (q, 0) := by
  unfold spec_l20Open.f
  by_cases h1 : (l.length : Int) > 2000
  · refine ⟨l.take 2000, ⟨by rw [List.length_take]; omega, fun j hj => ?_⟩, ev_pos h1 (ev_pos (by omega) (Ev.now _))⟩
    rw [List.length_take] at hj
    rw [rd_take _ _ _ (by omega)]
    exact by_of h j (by omega)
  · exact ⟨l, ⟨by omega, fun j hj => by_of h j hj⟩, ev_neg h1 (Ev.now _)⟩
theorem alive_ev : Ev (fun k => laws_alive.f k) true := by
  unfold laws_alive.f
  refine Ev.bind (iCustomersOk_ev _ (by decide)) (ev_pos (dec_pos ?_) (Ev.bind (iCustomersOk_ev _ (by decide)) (ev_some ?_)))
  · refine ⟨fun j _ hj => ?_, by decide⟩
    obtain rfl : j = 0 := by simp at hj; omega
    exact ⟨by decide, by decide, fun h => absurd h (by decide)⟩
  · rw [dec_neg]
    · rfl
    · intro h
      exact absurd (h.1 0 (Nat.le_refl _) (by decide)).2.1.1 (by decide)
theorem FnLeftFor_l0 {l : List S52} (h : COK l) (a : Nat) (ha : a < l.length) : ∀ (d j : Nat), j + d = a → Ev (fun k => laws_FnLeftFor.l0 k l (a : Int) (lfa l a a) (PEND l a) (j : Int)) true := by
  have n := clen h
  have b := lfa_in l a a
  intro d
  induction d with
  | zero =>
    intro j hj
    obtain rfl : j = a := by omega
    refine ev_succ ?_
    simp only [laws_FnLeftFor.l0]
    refine ev_neg (by omega) (ev_pos (by omega) (ev_pos (by omega) ?_))
    by_cases c : lfa l j j < 0
    · exact ev_pos c (Ev.bind alive_ev (Ev.now _))
    · obtain ⟨m, hm⟩ := Int.eq_ofNat_of_zero_le (show 0 ≤ lfa l j j by omega)
      have t := lfa_there l j j m hm
      have w := PEND_within h (j := m) (a := j) (by omega) ha t
      have q := PEND_in h (i := m) (by omega)
      have ci := cc_in h (i := m) (by omega)
      have pi := pp_in h (i := m) (by omega)
      have sp := sPeriodFrom_ev l (m : Int) (by omega)
      rw [PFV_pos h (by omega)] at sp
      have e1 : wrap64 ((rd_T52 l (m : Int)).f0 + (PEND l m - cc l m)) = PEND l m := by
        show wrap64 (cc l m + (PEND l m - cc l m)) = _
        rw [wrap_id (by omega) (by omega)]; omega
      rw [hm]
      refine ev_neg (by omega) (ev_pos (by omega) (ev_pos (by omega) (Ev.bind sp ?_)))
      rw [e1]
      exact ev_pos w (Ev.bind alive_ev (Ev.now _))
  | succ d ih =>
    intro j hj
    have q := PEND_in h (i := j) (by omega)
    have ci := cc_in h (i := j) (by omega)
    have pi := pp_in h (i := j) (by omega)
    have sp := sPeriodFrom_ev l (j : Int) (by omega)
    rw [PFV_pos h (by omega)] at sp
    have e1 : wrap64 ((rd_T52 l (j : Int)).f0 + (PEND l j - cc l j)) = PEND l j := by
      show wrap64 (cc l j + (PEND l j - cc l j)) = _
      rw [wrap_id (by omega) (by omega)]; omega
    have nx := ih (j + 1) (by omega)
    refine ev_succ ?_
    simp only [laws_FnLeftFor.l0]
    rw [wrap_succ (i := j) (by omega)]
    refine ev_pos (by omega) (ev_pos (by omega) (ev_pos (by omega) (Ev.bind sp (ev_pos (by omega) (ev_pos (by omega) ?_)))))
    rw [e1]
    by_cases c : PEND l j > cc l a
    · have w := PEND_within h (j := j) (a := a) (by omega) ha c
      refine ev_pos c (ev_neg (fun c2 => ?_) (Ev.bind sp ?_))
      · have := lfa_past l a a j (by omega) c2
        omega
      · rw [e1]
        exact ev_neg (by omega) nx
    · exact ev_neg c nx
theorem FnLeftFor : laws_FnLeftFor.Pure := by
  intro l0 _ _ hb
  refine Ev.rounds ?_
  unfold laws_FnLeftFor.f spec_DrawLeftFor.f
  by_cases h : (l0.length : Int) > 1048576
  · exact ev_pos h (Ev.now _)
  · obtain ⟨B, hB, ho⟩ := open_ev hb
    obtain ⟨c, a, q, hc, hl⟩ := l20Placed_ev hB
    refine ev_neg h (Ev.bind (Ev.bind ho (Ev.bind hc (Ev.now _))) (Ev.bind (iLeftFor_ev c a (by omega)) (Ev.bind (sLeftFor_ev c a (by omega)) (ev_pos rfl ?_))))
    by_cases ok : COK c ∧ 0 ≤ a ∧ a < (c.length : Int)
    · obtain ⟨m, rfl⟩ := Int.eq_ofNat_of_zero_le ok.2.1
      have hm : m < c.length := by omega
      have b := lfa_in c m m
      have q := PEND_in ok.1 hm
      have ci := cc_in ok.1 hm
      have pi := pp_in ok.1 hm
      have sp := sPeriodFrom_ev c (m : Int) (by omega)
      rw [PFV_pos ok.1 hm] at sp
      have e1 : wrap64 ((rd_T52 c (m : Int)).f0 + (PEND c m - cc c m)) = PEND c m := by
        show wrap64 (cc c m + (PEND c m - cc c m)) = _
        rw [wrap_id (by omega) (by omega)]; omega
      simp only [LFV_pos ok.1 hm]
      refine ev_neg (by omega) (ev_pos (by omega) (ev_pos (by omega) (Ev.bind sp ?_)))
      rw [e1]
      exact FnLeftFor_l0 ok.1 m hm m 0 (by omega)
    · simp only [LFV_neg ok]
      exact ev_pos (by simp) (Ev.bind alive_ev (Ev.now _))
end Go.Proofs.Ytbmhkhdmedemaaa.Pure
