/- The law FnWorkBy holds for every input; nothing is assumed. -/
import Derived.Test.YtlainmahnfnhkaaQFnWorkByx6
namespace Go.Proofs.Ytlainmahnfnhkaa.Pure
open Go.RowKit Go.Proofs.Ytlainmahnfnhkaa.PFnWorkBy Go.Proofs.YtlainmahnfnhkaaW.PrintWords Go.Proofs.YtlainmahnfnhkaaW.PrintLast Go.Proofs.YtlainmahnfnhkaaW.PrintMore
set_option linter.unusedVariables false
set_option linter.unusedSimpArgs false
theorem ev_succ {α : Type} {g : Nat → Option α} {r : α} (h : Ev (fun k => g (k + 1)) r) : Ev g r := Ev.step (fun _ => rfl) h
theorem ev_pos {α : Type} {c : Prop} [Decidable c] {f g : Nat → Option α} {r : α} (h : c) (k : Ev f r) : Ev (fun n => if c then f n else g n) r := Ev.congr (fun _ => if_pos h) k
theorem ev_neg {α : Type} {c : Prop} [Decidable c] {f g : Nat → Option α} {r : α} (h : ¬c) (k : Ev g r) : Ev (fun n => if c then f n else g n) r := Ev.congr (fun _ => if_neg h) k
theorem ev_some {α : Type} {x r : α} (h : x = r) : Ev (fun _ => some x) r := h ▸ Ev.now x
theorem ev_to {α : Type} {g : Nat → Option α} {a r : α} (h : Ev g a) (e : a = r) : Ev g r := e ▸ h
/-- Whether P. -/
noncomputable def dec (P : Prop) : Bool := @decide P (Classical.propDecidable P)
theorem dec_iff {P : Prop} : dec P = true ↔ P := @decide_eq_true_iff P (Classical.propDecidable P)
theorem dec_pos {P : Prop} (h : P) : dec P = true := dec_iff.2 h
theorem dec_neg {P : Prop} (h : ¬P) : dec P = false := by
  cases e : dec P
  · rfl
  · exact absurd (dec_iff.1 e) h
theorem dec_congr {P Q : Prop} (h : P ↔ Q) : dec P = dec Q := by rw [propext h]
theorem dec_of {P : Prop} [Decidable P] : decide P = dec P := by
  by_cases h : P
  · rw [dec_pos h, decide_eq_true h]
  · rw [dec_neg h, decide_eq_false h]
theorem dec_bool {b : Bool} : b = dec (b = true) := by
  cases b
  · exact (dec_neg (by simp)).symm
  · exact (dec_pos rfl).symm
/-- From i on: at i, and from i + 1 on. -/
theorem from_step {i n : Nat} {Q : Nat → Prop} (h : i < n) : (∀ j, i ≤ j → j < n → Q j) ↔ Q i ∧ ∀ j, i + 1 ≤ j → j < n → Q j := by
  constructor
  · exact fun a => ⟨a i (Nat.le_refl _) h, fun j h1 h2 => a j (by omega) h2⟩
  · intro a j h1 h2
    by_cases e : j = i
    · exact e ▸ a.1
    · exact a.2 j (by omega) h2
theorem from_end {n : Nat} {Q : Nat → Prop} : ∀ j, n ≤ j → j < n → Q j := fun j h1 h2 => by omega
theorem wrap_id {x : Int} (h0 : -9223372036854775808 ≤ x) (h1 : x ≤ 9223372036854775807) : wrap64 x = x := by unfold wrap64; omega
theorem wrap_succ {i : Nat} (h : i ≤ 9223372036854775806) : wrap64 ((i : Int) + 1) = ((i + 1 : Nat) : Int) := by unfold wrap64; omega
theorem wrap_pred {i : Nat} (h : i ≤ 9223372036854775806) : wrap64 ((i : Int) - 1) = (i : Int) - 1 := by unfold wrap64; omega
/-- The bounds of a number of the kind int. -/
def I64 (x : Int) : Prop := -9223372036854775808 ≤ x ∧ x ≤ 9223372036854775807
theorem i64_wf {x : Int} (h : (Lit.int .i64 x).wf = true) : I64 x := by
  have h' : (decide (IntKind.i64.min ≤ x) && decide (x ≤ IntKind.i64.max)) = true := h
  have a : IntKind.i64.min = -9223372036854775808 := by decide
  have b : IntKind.i64.max = 9223372036854775807 := by decide
  rw [a, b] at h'
  simpa [I64] using h'
theorem sCustomer_nat (l : List S42) (i : Nat) : rd_T42 l (i : Int) = l.getD i z42 := rfl
theorem sCustomer_get {l : List S42} {i : Nat} (h : i < l.length) : rd_T42 l (i : Int) = l[i] := by
  rw [sCustomer_nat, List.getD_eq_getElem?_getD, List.getElem?_eq_getElem h]; rfl
theorem sCustomer_set (l : List S42) (i j : Nat) (v : S42) (h : i < l.length) : rd_T42 (l.set i v) (j : Int) = if j = i then v else rd_T42 l (j : Int) := by
  rw [sCustomer_nat, sCustomer_nat, List.getD_eq_getElem?_getD, List.getElem?_set]
  by_cases e : i = j
  · subst e; rw [if_pos rfl, if_pos h, if_pos rfl]; rfl
  · rw [if_neg e, if_neg (fun x => e x.symm), ← List.getD_eq_getElem?_getD]
theorem sCustomer_app (l : List S42) (v : S42) (j : Nat) : rd_T42 (l ++ [v]) (j : Int) = if j < l.length then rd_T42 l (j : Int) else if j = l.length then v else z42 := by
  rw [sCustomer_nat, sCustomer_nat, List.getD_eq_getElem?_getD, List.getD_eq_getElem?_getD, List.getElem?_append]
  by_cases h : j < l.length
  · rw [if_pos h, if_pos h]
  · rw [if_neg h, if_neg h]
    by_cases e : j = l.length
    · subst e; rw [if_pos rfl]; simp
    · rw [if_neg e, List.getElem?_eq_none (by simp; omega)]; rfl
theorem sCustomer_take (l : List S42) (n j : Nat) (h : j < n) : rd_T42 (l.take n) (j : Int) = rd_T42 l (j : Int) := by
  rw [sCustomer_nat, sCustomer_nat, List.getD_eq_getElem?_getD, List.getElem?_take, if_pos h, ← List.getD_eq_getElem?_getD]
theorem sCustomer_drop (l : List S42) (n j : Nat) : rd_T42 (l.drop n) (j : Int) = rd_T42 l ((n + j : Nat) : Int) := by
  rw [sCustomer_nat, sCustomer_nat, List.getD_eq_getElem?_getD, List.getElem?_drop, ← List.getD_eq_getElem?_getD]
theorem sCustomer_ext {a b : List S42} (hl : a.length = b.length) (h : ∀ j : Nat, j < a.length → rd_T42 a (j : Int) = rd_T42 b (j : Int)) : a = b := by
  refine List.ext_getElem hl fun j h1 h2 => ?_
  have := h j h1
  rw [sCustomer_get h1, sCustomer_get h2] at this
  exact this
def CIn (l : List S42) (j : Nat) : Prop := (0 ≤ (rd_T42 l (j : Int)).f0 ∧ (rd_T42 l (j : Int)).f0 ≤ 60) ∧ (1 ≤ (rd_T42 l (j : Int)).f1 ∧ (rd_T42 l (j : Int)).f1 ≤ 9) ∧ (0 < j → (rd_T42 l ((j : Int) - 1)).f0 ≤ (rd_T42 l (j : Int)).f0)
/-- Customers. -/
def COK (l : List S42) : Prop := (∀ j : Nat, 0 ≤ j → j < l.length → CIn l j) ∧ (l.length : Int) ≤ 8
def cc (l : List S42) (i : Nat) : Int := (rd_T42 l (i : Int)).f0
def pp (l : List S42) (i : Nat) : Int := (rd_T42 l (i : Int)).f1
theorem cc_in {l : List S42} (h : COK l) {i : Nat} (hi : i < l.length) : 0 ≤ cc l i ∧ cc l i ≤ 60 := (h.1 i (Nat.zero_le _) hi).1
theorem pp_in {l : List S42} (h : COK l) {i : Nat} (hi : i < l.length) : 1 ≤ pp l i ∧ pp l i ≤ 9 := (h.1 i (Nat.zero_le _) hi).2.1
theorem cc_step {l : List S42} (h : COK l) {i : Nat} (hi : i + 1 < l.length) : cc l i ≤ cc l (i + 1) := by
  have := (h.1 (i + 1) (Nat.zero_le _) hi).2.2 (by omega)
  rw [show (((i + 1 : Nat) : Int) - 1) = (i : Int) by omega] at this
  exact this
theorem cc_mono {l : List S42} (h : COK l) (j : Nat) : ∀ i : Nat, i ≤ j → j < l.length → cc l i ≤ cc l j := by
  induction j with
  | zero => intro i hi _; obtain rfl : i = 0 := by omega
            exact Int.le_refl _
  | succ j ih =>
    intro i hi hj
    by_cases e : i = j + 1
    · subst e; exact Int.le_refl _
    · have := ih i (by omega) (by omega)
      have := cc_step h hj
      omega
theorem clen {l : List S42} (h : COK l) : l.length ≤ 8 := by have := h.2; omega
theorem mx_lt {a b : Int} (h : a < b) : mx a b = b := if_pos h
theorem mx_ge {a b : Int} (h : ¬ a < b) : mx a b = a := if_neg h
theorem mx_le {a b c : Int} : mx a b ≤ c ↔ a ≤ c ∧ b ≤ c := by unfold mx; split <;> omega
theorem le_mx {a b : Int} : a ≤ mx a b ∧ b ≤ mx a b := by unfold mx; split <;> omega
theorem mx_max (a b : Int) : mx a b = max a b := by unfold mx; split <;> omega
/-- The waits. -/
def wt (l : List S42) : Nat → Int
  | 0 => 0
  | i + 1 => mx (wt l i + pp l i - (cc l (i + 1) - cc l i)) 0
theorem wt_nonneg (l : List S42) : ∀ i : Nat, 0 ≤ wt l i
  | 0 => Int.le_refl _
  | i + 1 => (le_mx (a := wt l i + pp l i - (cc l (i + 1) - cc l i)) (b := 0)).2
/-- The ends, as they come. -/
def fe (l : List S42) (i : Nat) : Int := cc l i + wt l i + pp l i
theorem wt_le {l : List S42} (h : COK l) : ∀ i : Nat, i < l.length → wt l i ≤ 9 * (i : Int)
  | 0, _ => by simp [wt]
  | i + 1, hi => by
    have a := wt_le h i (by omega)
    have p := pp_in h (i := i) (by omega)
    have c := cc_step h hi
    exact mx_le.2 ⟨by omega, by omega⟩
theorem wt_in {l : List S42} (h : COK l) (i : Nat) (hi : i < l.length) : 0 ≤ wt l i ∧ wt l i ≤ 63 ∧ fe l i ≤ 140 := by
  have a := wt_le h i hi
  have w := wt_nonneg l i
  have c := cc_in h hi
  have p := pp_in h hi
  have n := clen h
  have f : fe l i = cc l i + wt l i + pp l i := rfl
  omega
/-- f 0 to f (n - 1), added. -/
def sg (f : Nat → Int) : Nat → Int
  | 0 => 0
  | n + 1 => sg f n + f n
theorem sg_congr {f g : Nat → Int} : ∀ n : Nat, (∀ i, i < n → f i = g i) → sg f n = sg g n
  | 0, _ => rfl
  | n + 1, h => by
    simp only [sg]
    rw [sg_congr n (fun i hi => h i (by omega)), h n (by omega)]
theorem sg_le {f g : Nat → Int} : ∀ n : Nat, (∀ i, i < n → f i ≤ g i) → sg f n ≤ sg g n
  | 0, _ => Int.le_refl _
  | n + 1, h => by
    have := sg_le n (fun i hi => h i (by omega))
    have := h n (by omega)
    simp only [sg]; omega
theorem sg_in {f : Nat → Int} {A B : Int} : ∀ n : Nat, (∀ i, i < n → A ≤ f i ∧ f i ≤ B) → A * (n : Int) ≤ sg f n ∧ sg f n ≤ B * (n : Int)
  | 0, _ => by simp [sg]
  | n + 1, h => by
    have a := sg_in n (fun i hi => h i (by omega))
    have b := h n (by omega)
    have e1 : A * ((n + 1 : Nat) : Int) = A * (n : Int) + A := by rw [Int.natCast_add, Int.mul_add]; simp
    have e2 : B * ((n + 1 : Nat) : Int) = B * (n : Int) + B := by rw [Int.natCast_add, Int.mul_add]; simp
    simp only [sg]
    rw [e1, e2]; omega
theorem sg_add (f g : Nat → Int) : ∀ n : Nat, sg (fun i => f i + g i) n = sg f n + sg g n
  | 0 => rfl
  | n + 1 => by simp only [sg]; rw [sg_add f g n]; omega
theorem sg_sub (f g : Nat → Int) : ∀ n : Nat, sg (fun i => f i - g i) n = sg f n - sg g n
  | 0 => rfl
  | n + 1 => by simp only [sg]; rw [sg_sub f g n]; omega
theorem sg_zero : ∀ n : Nat, sg (fun _ => 0) n = 0
  | 0 => rfl
  | n + 1 => by simp only [sg]; rw [sg_zero n]; rfl
theorem sg_swap (f : Nat → Nat → Int) (n : Nat) : ∀ m : Nat, sg (fun t => sg (fun i => f t i) n) m = sg (fun i => sg (fun t => f t i) m) n
  | 0 => by simp only [sg]; exact (sg_zero n).symm
  | m + 1 => by
    simp only [sg]
    rw [sg_swap f n m, ← sg_add]
theorem sg_split (f : Nat → Int) (n : Nat) : ∀ m : Nat, sg f (n + m) = sg f n + sg (fun i => f (n + i)) m
  | 0 => by simp [sg]
  | m + 1 => by
    show sg f (n + m) + f (n + m) = _
    simp only [sg]
    rw [sg_split f n m]; omega
theorem sg_mem {f : Nat → Int} : ∀ (n i : Nat), i < n → (∀ j, j < n → 0 ≤ f j) → f i ≤ sg f n
  | n + 1, i, hi, h => by
    simp only [sg]
    by_cases e : i = n
    · subst e
      have := (sg_in (A := 0) (B := sg f i) i (fun j hj => ⟨h j (by omega), sg_mem i j hj (fun k hk => h k (by omega))⟩)).1
      omega
    · have := sg_mem n i (by omega) (fun k hk => h k (by omega))
      have := h n (by omega)
      omega
theorem sg_nonneg {f : Nat → Int} : ∀ n : Nat, (∀ j, j < n → 0 ≤ f j) → 0 ≤ sg f n
  | 0, _ => Int.le_refl _
  | n + 1, h => by
    have := sg_nonneg n (fun j hj => h j (by omega))
    have := h n (by omega)
    simp only [sg]; omega
/-- One unit at k. -/
theorem sg_unit (k : Nat) (x : Int) : ∀ n : Nat, sg (fun i => if i = k then x else 0) n = if k < n then x else 0
  | 0 => rfl
  | n + 1 => by
    simp only [sg]
    rw [sg_unit k x n]
    by_cases e : n = k
    · rw [if_neg (by omega), if_pos e, if_pos (by omega)]; omega
    · rw [if_neg e]
      by_cases c : k < n
      · rw [if_pos c, if_pos (by omega)]; omega
      · rw [if_neg c, if_neg (by omega)]; rfl
/-- The work that customer i brings. -/
def wb (l : List S42) (i : Nat) : Int := pp l i * wt l i + Int.tdiv (pp l i * (pp l i + 1)) 2
theorem prod_in {a b A B : Int} (a0 : 0 ≤ a) (a1 : a ≤ A) (b0 : 0 ≤ b) (b1 : b ≤ B) : 0 ≤ a * b ∧ a * b ≤ A * B :=
  ⟨Int.mul_nonneg a0 b0, Int.mul_le_mul a1 b1 b0 (Int.le_trans a0 a1)⟩
theorem wb_in {l : List S42} (h : COK l) (i : Nat) (hi : i < l.length) : (0 ≤ pp l i * wt l i ∧ pp l i * wt l i ≤ 9 * 63) ∧ (0 ≤ pp l i * (pp l i + 1) ∧ pp l i * (pp l i + 1) ≤ 9 * 10) ∧ 0 ≤ Int.tdiv (pp l i * (pp l i + 1)) 2 ∧ Int.tdiv (pp l i * (pp l i + 1)) 2 ≤ 90 := by
  have p := pp_in h hi
  have w := wt_in h i hi
  have a := prod_in (a := pp l i) (b := wt l i) (A := 9) (B := 63) (by omega) (by omega) (by omega) (by omega)
  have b := prod_in (a := pp l i) (b := pp l i + 1) (A := 9) (B := 10) (by omega) (by omega) (by omega) (by omega)
  have c : Int.tdiv (pp l i * (pp l i + 1)) 2 ≤ pp l i * (pp l i + 1) := Int.tdiv_le_self _ b.1
  have d : 0 ≤ Int.tdiv (pp l i * (pp l i + 1)) 2 := Int.tdiv_nonneg b.1 (by omega)
  exact ⟨a, b, d, by omega⟩
theorem wbs_in {l : List S42} (h : COK l) (i : Nat) (hi : i ≤ l.length) : 0 ≤ sg (wb l) i ∧ sg (wb l) i ≤ 657 * (i : Int) := by
  have := sg_in (f := wb l) (A := 0) (B := 657) i (fun j hj => by have := wb_in h j (by omega); unfold wb; omega)
  omega
/-- What WorkBy answers. -/
noncomputable def WBV (l : List S42) : Int := @ite _ (COK l) (Classical.propDecidable _) (sg (wb l) l.length) (-1)
theorem WBV_pos {l : List S42} (h : COK l) : WBV l = sg (wb l) l.length := by unfold WBV; exact if_pos h
theorem WBV_neg {l : List S42} (h : ¬COK l) : WBV l = -1 := by unfold WBV; exact if_neg h
theorem iCustomersOk_l0 (l : List S42) (hl : l.length ≤ 9223372036854775806) : ∀ d i : Nat, i + d = l.length →
    Ev (fun k => impl_CustomersOk.l0 k l l (l.length : Int) (i : Int)) (dec ((∀ j : Nat, i ≤ j → j < l.length → CIn l j) ∧ (l.length : Int) ≤ 8)) := by
  intro d
  induction d with
  | zero =>
    intro i hi
    refine ev_succ ?_
    simp only [impl_CustomersOk.l0]
    refine ev_neg (by omega) (ev_some ?_)
    obtain rfl : i = l.length := by omega
    rw [dec_of]
    exact dec_congr ⟨fun h => ⟨from_end, h⟩, fun h => h.2⟩
  | succ d ih =>
    intro i hi
    refine ev_succ ?_
    simp only [impl_CustomersOk.l0]
    have hs := from_step (i := i) (n := l.length) (Q := fun j => CIn l j) (by omega)
    refine ev_pos (by omega) (ev_pos (by omega) (ev_pos (by omega) ?_))
    by_cases h1 : (rd_T42 l (i : Int)).f0 < 0
    · exact ev_pos h1 (ev_some (dec_neg (fun x => by have := (hs.1 x.1).1.1.1; omega)).symm)
    refine ev_neg h1 ?_
    by_cases h2 : (rd_T42 l (i : Int)).f0 > 60
    · exact ev_pos h2 (ev_some (dec_neg (fun x => by have := (hs.1 x.1).1.1.2; omega)).symm)
    refine ev_neg h2 ?_
    rw [wrap_succ (by omega), wrap_pred (by omega)]
    have fin : (0 < i → (rd_T42 l ((i : Int) - 1)).f0 ≤ (rd_T42 l (i : Int)).f0) → Ev (fun k => if (rd_T42 l (i : Int)).f1 < 1 then some false else if (rd_T42 l (i : Int)).f1 > 9 then some false else impl_CustomersOk.l0 k l l (l.length : Int) ((i + 1 : Nat) : Int)) (dec ((∀ j : Nat, i ≤ j → j < l.length → CIn l j) ∧ (l.length : Int) ≤ 8)) := by
      intro hp
      by_cases h3 : (rd_T42 l (i : Int)).f1 < 1
      · exact ev_pos h3 (ev_some (dec_neg (fun x => by have := (hs.1 x.1).1.2.1.1; omega)).symm)
      refine ev_neg h3 ?_
      by_cases h4 : (rd_T42 l (i : Int)).f1 > 9
      · exact ev_pos h4 (ev_some (dec_neg (fun x => by have := (hs.1 x.1).1.2.1.2; omega)).symm)
      refine ev_neg h4 (ev_to (ih (i + 1) (by omega)) (dec_congr ?_))
      rw [hs]
      exact ⟨fun x => ⟨⟨⟨⟨by omega, by omega⟩, ⟨by omega, by omega⟩, hp⟩, x.1⟩, x.2⟩, fun x => ⟨x.1.2, x.2⟩⟩
    by_cases h5 : (i : Int) > 0
    · refine ev_pos h5 (ev_pos (by omega) (ev_pos (by omega) ?_))
      by_cases h6 : (rd_T42 l (i : Int)).f0 < (rd_T42 l ((i : Int) - 1)).f0
      · exact ev_pos h6 (ev_some (dec_neg (fun x => by have := (hs.1 x.1).1.2.2 (by omega); omega)).symm)
      · exact ev_neg h6 (fin (fun _ => by omega))
    · exact ev_neg h5 (fin (fun h => by omega))
theorem iCustomersOk_ev (l : List S42) (hl : l.length ≤ 9223372036854775806) : Ev (fun k => impl_CustomersOk.f k l) (dec (COK l)) := iCustomersOk_l0 l hl l.length 0 (by omega)
theorem rd_nat (l : List Int) (i : Nat) : rd l (i : Int) = l.getD i 0 := rfl
theorem rd_set (l : List Int) (i j : Nat) (v : Int) (h : i < l.length) : rd (l.set i v) (j : Int) = if j = i then v else rd l (j : Int) := by
  rw [rd_nat, rd_nat, List.getD_eq_getElem?_getD, List.getElem?_set]
  by_cases e : i = j
  · subst e; rw [if_pos rfl, if_pos h, if_pos rfl]; rfl
  · rw [if_neg e, if_neg (fun x => e x.symm), ← List.getD_eq_getElem?_getD]
theorem rd_app (l : List Int) (v : Int) (j : Nat) : rd (l ++ [v]) (j : Int) = if j < l.length then rd l (j : Int) else if j = l.length then v else 0 := by
  rw [rd_nat, rd_nat, List.getD_eq_getElem?_getD, List.getD_eq_getElem?_getD, List.getElem?_append]
  by_cases h : j < l.length
  · rw [if_pos h, if_pos h]
  · rw [if_neg h, if_neg h]
    by_cases e : j = l.length
    · subst e; rw [if_pos rfl]; simp
    · rw [if_neg e, List.getElem?_eq_none (by simp; omega)]; rfl
theorem rd_take (l : List Int) (n j : Nat) (h : j < n) : rd (l.take n) (j : Int) = rd l (j : Int) := by
  rw [rd_nat, rd_nat, List.getD_eq_getElem?_getD, List.getElem?_take, if_pos h, ← List.getD_eq_getElem?_getD]
theorem rd_ext {a b : List Int} (hl : a.length = b.length) (h : ∀ j : Nat, j < a.length → rd a (j : Int) = rd b (j : Int)) : a = b := by
  refine List.ext_getElem hl fun j h1 h2 => ?_
  have := h j h1
  rw [rd_nat, rd_nat, List.getD_eq_getElem?_getD, List.getD_eq_getElem?_getD, List.getElem?_eq_getElem h1, List.getElem?_eq_getElem h2] at this
  exact this
theorem rd_out (l : List Int) (j : Nat) (h : l.length ≤ j) : rd l (j : Int) = 0 := by
  rw [rd_nat, List.getD_eq_getElem?_getD, List.getElem?_eq_none h]; rfl
theorem rd_mem {l : List Int} {j : Nat} (h : j < l.length) : rd l (j : Int) ∈ l := by
  rw [rd_nat, List.getD_eq_getElem?_getD, List.getElem?_eq_getElem h]; exact List.getElem_mem h
theorem rd_repl (n j : Nat) : rd (List.replicate n (0 : Int)) (j : Int) = 0 := by
  rw [rd_nat, List.getD_eq_getElem?_getD, List.getElem?_replicate]; split <;> rfl
/-- A row out of a function. -/
def tab (n : Nat) (f : Nat → Int) : List Int := (List.range n).map f
theorem tab_len (n : Nat) (f : Nat → Int) : (tab n f).length = n := by simp [tab]
theorem rd_tab (n : Nat) (f : Nat → Int) (i : Nat) (h : i < n) : rd (tab n f) (i : Int) = f i := by
  rw [rd_nat, List.getD_eq_getElem?_getD]
  unfold tab
  rw [List.getElem?_map, List.getElem?_range h]; rfl
theorem eq_tab {l : List Int} {n : Nat} {f : Nat → Int} (hl : l.length = n) (h : ∀ i : Nat, i < n → rd l (i : Int) = f i) : l = tab n f :=
  rd_ext (by rw [tab_len, hl]) (fun j hj => by rw [h j (by omega), rd_tab n f j (by omega)])
theorem tab_congr {n : Nat} {f g : Nat → Int} (h : ∀ i, i < n → f i = g i) : tab n f = tab n g :=
  eq_tab (tab_len n f) (fun i hi => by rw [rd_tab n f i hi, h i hi])
theorem mx_comm0 (x : Int) : mx 0 x = mx x 0 := by unfold mx; split <;> split <;> omega
theorem iWaitsOf_l0 {l : List S42} (h : COK l) : ∀ (d : Nat) (o : List Int), o.length + d = l.length → (∀ j : Nat, j < o.length → rd o (j : Int) = wt l j) →
    Ev (fun k => impl_WaitsOf.l0 k l o l (l.length : Int) (o.length : Int)) (tab l.length (wt l)) := by
  have n := clen h
  intro d
  induction d with
  | zero =>
    intro o ho hr
    refine ev_succ ?_
    simp only [impl_WaitsOf.l0]
    exact ev_neg (by omega) (ev_some (eq_tab (by omega) (fun i hi => hr i (by omega))))
  | succ d ih =>
    intro o ho hr
    have nx := ih (o ++ [wt l o.length]) (by simp; omega) (fun j hj => by
      rw [rd_app]
      by_cases e : j < o.length
      · rw [if_pos e]; exact hr j e
      · have ej : j = o.length := by simp at hj; omega
        rw [if_neg e, if_pos ej, ej])
    rw [List.length_append] at nx
    refine ev_succ ?_
    simp only [impl_WaitsOf.l0]
    rw [wrap_succ (i := o.length) (by omega)]
    refine ev_pos (by omega) (ev_pos (by omega) (ev_pos (by omega) ?_))
    by_cases z : o.length = 0
    · rw [z] at nx ⊢
      exact ev_neg (by omega) (ev_pos (by omega) nx)
    · obtain ⟨m, hm⟩ : ∃ m, o.length = m + 1 := ⟨o.length - 1, by omega⟩
      have a := wt_in h m (by omega)
      have p := pp_in h (i := m) (by omega)
      have c := cc_in h (i := m) (by omega)
      have c2 := cc_in h (i := m + 1) (by omega)
      have e : wrap64 (((m + 1 : Nat) : Int) - 1) = (m : Int) := by rw [wrap_id (by omega) (by omega)]; omega
      have e2 : mx 0 (wrap64 (wrap64 (rd o (m : Int) + (rd_T42 l (m : Int)).f1) - wrap64 ((rd_T42 l ((m + 1 : Nat) : Int)).f0 - (rd_T42 l (m : Int)).f0))) = wt l (m + 1) := by
        rw [hr m (by omega)]
        show mx 0 (wrap64 (wrap64 (wt l m + pp l m) - wrap64 (cc l (m + 1) - cc l m))) = mx (wt l m + pp l m - (cc l (m + 1) - cc l m)) 0
        rw [wrap_id (x := wt l m + pp l m) (by omega) (by omega), wrap_id (x := cc l (m + 1) - cc l m) (by omega) (by omega), wrap_id (by omega) (by omega), mx_comm0]
      rw [hm] at nx ⊢
      rw [e, e2]
      exact ev_pos (by omega) (ev_pos (by omega) (ev_pos (by omega) (ev_pos (by omega) (ev_pos (by omega) nx))))
theorem iWaitsOf_ev {l : List S42} (h : COK l) : Ev (fun k => impl_WaitsOf.f k l) (tab l.length (wt l)) := by
  have n := clen h
  unfold impl_WaitsOf.f
  exact Ev.bind (iCustomersOk_ev l (by omega)) (ev_pos (dec_pos h) (iWaitsOf_l0 h l.length [] (by simp) (fun j hj => by simp at hj)))
theorem iWorkBy_l0 {l : List S42} (h : COK l) : ∀ (d i : Nat), i + d = l.length → Ev (fun k => impl_WorkBy.l0 k l (sg (wb l) i) (tab l.length (wt l)) ((tab l.length (wt l)).length : Int) (i : Int)) (sg (wb l) l.length) := by
  have n := clen h
  have tl := tab_len l.length (wt l)
  intro d
  induction d with
  | zero =>
    intro i hi
    obtain rfl : i = l.length := by omega
    refine ev_succ ?_
    simp only [impl_WorkBy.l0]
    exact ev_neg (by omega) (Ev.now _)
  | succ d ih =>
    intro i hi
    have a := wb_in h i (by omega)
    have b := wbs_in h (i + 1) (by omega)
    have p := pp_in h (i := i) (by omega)
    have c : sg (wb l) (i + 1) = sg (wb l) i + (pp l i * wt l i + Int.tdiv (pp l i * (pp l i + 1)) 2) := rfl
    have pd : (rd_T42 l (i : Int)).f1 = pp l i := rfl
    refine ev_succ ?_
    simp only [impl_WorkBy.l0, pd]
    rw [wrap_succ (i := i) (by omega), rd_tab _ _ _ (by omega), wrap_id (x := pp l i + 1) (by omega) (by omega), wrap_id (x := pp l i * (pp l i + 1)) (by omega) (by omega), wrap_id (x := pp l i * wt l i) (by omega) (by omega), wrap_id (x := Int.tdiv _ 2) (by omega) (by omega), wrap_id (x := pp l i * wt l i + _) (by omega) (by omega), wrap_id (x := sg (wb l) i + _) (by omega) (by omega), ← c]
    exact ev_pos (by omega) (ev_pos (by omega) (ev_pos (by omega) (ev_pos (by omega) (ih (i + 1) (by omega)))))
theorem iWorkBy_ev (l : List S42) (hl : l.length ≤ 9223372036854775806) : Ev (fun k => impl_WorkBy.f k l) (WBV l) := by
  unfold impl_WorkBy.f
  refine Ev.bind (iCustomersOk_ev l hl) ?_
  by_cases h : COK l
  · rw [WBV_pos h]
    exact ev_pos (dec_pos h) (Ev.bind (iWaitsOf_ev h) (iWorkBy_l0 h l.length 0 (by omega)))
  · exact ev_neg (by rw [dec_neg h]; simp) (ev_some (WBV_neg h).symm)
theorem l1In_eq (a b c : Int) : spec_l1In.f a b c = some (dec (b ≤ a ∧ a ≤ c)) := by
  unfold spec_l1In.f
  by_cases h : a ≥ b
  · rw [if_pos h]
    by_cases h2 : a ≤ c
    · rw [decide_eq_true h2, dec_pos ⟨h, h2⟩]
    · rw [decide_eq_false h2, dec_neg (fun x => h2 x.2)]
  · rw [if_neg h, dec_neg (fun x => h x.1)]
theorem l1In_ev (a b c : Int) : Ev (fun _ => spec_l1In.f a b c) (dec (b ≤ a ∧ a ≤ c)) := Ev.congr (fun _ => l1In_eq a b c) (Ev.now _)
theorem sCustomersOk_l0 (l : List S42) (hl : l.length ≤ 9223372036854775806) : ∀ d i : Nat, i + d = l.length →
    Ev (fun k => spec_CustomersOk.l0 k l (i : Int)) (dec ((∀ j : Nat, i ≤ j → j < l.length → CIn l j) ∧ (l.length : Int) ≤ 8)) := by
  intro d
  induction d with
  | zero =>
    intro i hi
    refine ev_succ ?_
    simp only [spec_CustomersOk.l0]
    refine ev_neg (by omega) (ev_some ?_)
    obtain rfl : i = l.length := by omega
    rw [dec_of]
    exact dec_congr ⟨fun h => ⟨from_end, h⟩, fun h => h.2⟩
  | succ d ih =>
    intro i hi
    refine ev_succ ?_
    simp only [spec_CustomersOk.l0]
    have hs := from_step (i := i) (n := l.length) (Q := fun j => CIn l j) (by omega)
    refine ev_pos (by omega) (ev_pos (by omega) (Ev.bind (l1In_ev _ _ _) ?_))
    by_cases h1 : 0 ≤ (rd_T42 l (i : Int)).f0 ∧ (rd_T42 l (i : Int)).f0 ≤ 60
    · refine ev_pos (dec_pos h1) (Ev.bind (l1In_ev _ _ _) ?_)
      by_cases h2 : 1 ≤ (rd_T42 l (i : Int)).f1 ∧ (rd_T42 l (i : Int)).f1 ≤ 9
      · refine ev_pos (dec_pos h2) ?_
        rw [wrap_succ (by omega), wrap_pred (by omega)]
        by_cases h3 : (i : Int) > 0
        · refine ev_pos h3 (ev_pos (by omega) (ev_pos (by omega) ?_))
          by_cases h4 : (rd_T42 l (i : Int)).f0 < (rd_T42 l ((i : Int) - 1)).f0
          · exact ev_pos h4 (ev_some (dec_neg (fun x => by have := (hs.1 x.1).1.2.2 (by omega); omega)).symm)
          · refine ev_neg h4 (ev_to (ih (i + 1) (by omega)) (dec_congr ?_))
            rw [hs]
            exact ⟨fun x => ⟨⟨⟨h1, h2, fun _ => by omega⟩, x.1⟩, x.2⟩, fun x => ⟨x.1.2, x.2⟩⟩
        · refine ev_neg h3 (ev_to (ih (i + 1) (by omega)) (dec_congr ?_))
          rw [hs]
          exact ⟨fun x => ⟨⟨⟨h1, h2, fun _ => by omega⟩, x.1⟩, x.2⟩, fun x => ⟨x.1.2, x.2⟩⟩
      · exact ev_neg (by rw [dec_neg h2]; simp) (ev_some (dec_neg (fun x => h2 (hs.1 x.1).1.2.1)).symm)
    · exact ev_neg (by rw [dec_neg h1]; simp) (ev_some (dec_neg (fun x => h1 (hs.1 x.1).1.1)).symm)
theorem sCustomersOk_ev (l : List S42) (hl : l.length ≤ 9223372036854775806) : Ev (fun k => spec_CustomersOk.f k l) (dec (COK l)) := sCustomersOk_l0 l hl l.length 0 (by omega)
theorem sGapsOf_l0 {l : List S42} (h : COK l) : ∀ (d : Nat) (o : List Int), o.length + 1 + d = l.length → (∀ j : Nat, j < o.length → rd o (j : Int) = cc l (j + 1) - cc l j) →
    Ev (fun k => spec_GapsOf.l0 k l o ((o.length + 1 : Nat) : Int)) (tab (l.length - 1) (fun j => cc l (j + 1) - cc l j)) := by
  have n := clen h
  intro d
  induction d with
  | zero =>
    intro o ho hr
    refine ev_succ ?_
    simp only [spec_GapsOf.l0]
    exact ev_neg (by omega) (ev_some (eq_tab (by omega) (fun i hi => hr i (by omega))))
  | succ d ih =>
    intro o ho hr
    have a := cc_in h (i := o.length) (by omega)
    have b := cc_in h (i := o.length + 1) (by omega)
    have nx := ih (o ++ [cc l (o.length + 1) - cc l o.length]) (by simp; omega) (fun j hj => by
      rw [rd_app]
      by_cases e : j < o.length
      · rw [if_pos e]; exact hr j e
      · have ej : j = o.length := by simp at hj; omega
        rw [if_neg e, if_pos ej, ej])
    rw [List.length_append] at nx
    have e : wrap64 (((o.length + 1 : Nat) : Int) - 1) = (o.length : Int) := by rw [wrap_id (by omega) (by omega)]; omega
    have e2 : wrap64 ((rd_T42 l ((o.length + 1 : Nat) : Int)).f0 - (rd_T42 l (o.length : Int)).f0) = cc l (o.length + 1) - cc l o.length := wrap_id (by show _ ≤ cc l (o.length + 1) - cc l o.length; omega) (by show cc l (o.length + 1) - cc l o.length ≤ _; omega)
    refine ev_succ ?_
    simp only [spec_GapsOf.l0, e, e2]
    rw [wrap_succ (i := o.length + 1) (by omega)]
    exact ev_pos (by omega) (Ev.bind (sCustomersOk_ev l (by omega)) (ev_pos (dec_pos h) (ev_pos (by omega) (ev_pos (by omega) (ev_pos (by omega) (ev_pos (by omega) nx))))))
theorem sWaitsOf_l0 {l : List S42} (h : COK l) : ∀ (d : Nat) (o : List Int), o.length + d = l.length → (∀ j : Nat, j < o.length → rd o (j : Int) = wt l j) →
    Ev (fun k => spec_WaitsOf.l0 k l o (tab (l.length - 1) (fun j => cc l (j + 1) - cc l j)) (o.length : Int)) (tab l.length (wt l)) := by
  have n := clen h
  have tl := tab_len (l.length - 1) (fun j => cc l (j + 1) - cc l j)
  intro d
  induction d with
  | zero =>
    intro o ho hr
    refine ev_succ ?_
    simp only [spec_WaitsOf.l0]
    refine ev_neg (by omega) (ev_succ ?_)
    simp only [spec_WaitsOf.j1]
    exact ev_neg (by simp) (ev_some (eq_tab (by omega) (fun i hi => hr i (by omega))))
  | succ d ih =>
    intro o ho hr
    have nx := ih (o ++ [wt l o.length]) (by simp; omega) (fun j hj => by
      rw [rd_app]
      by_cases e : j < o.length
      · rw [if_pos e]; exact hr j e
      · have ej : j = o.length := by simp at hj; omega
        rw [if_neg e, if_pos ej, ej])
    rw [List.length_append] at nx
    refine ev_succ ?_
    simp only [spec_WaitsOf.l0]
    refine ev_pos (by omega) (Ev.bind (sCustomersOk_ev l (by omega)) (ev_succ ?_))
    simp only [spec_WaitsOf.j1]
    rw [wrap_succ (i := o.length) (by omega)]
    refine ev_pos (dec_pos h) ?_
    by_cases z : o.length = 0
    · rw [z] at nx ⊢
      exact ev_pos (by omega) (ev_pos (by omega) nx)
    · obtain ⟨m, hm⟩ : ∃ m, o.length = m + 1 := ⟨o.length - 1, by omega⟩
      have a := wt_in h m (by omega)
      have p := pp_in h (i := m) (by omega)
      have c := cc_in h (i := m) (by omega)
      have c2 := cc_in h (i := m + 1) (by omega)
      have e : wrap64 (((m + 1 : Nat) : Int) - 1) = (m : Int) := by rw [wrap_id (by omega) (by omega)]; omega
      have e2 : mx (wrap64 (wrap64 (rd o (m : Int) + (rd_T42 l (m : Int)).f1) - rd (tab (l.length - 1) (fun j => cc l (j + 1) - cc l j)) (m : Int))) 0 = wt l (m + 1) := by
        rw [hr m (by omega), rd_tab _ _ _ (by omega)]
        show mx (wrap64 (wrap64 (wt l m + pp l m) - (cc l (m + 1) - cc l m))) 0 = mx (wt l m + pp l m - (cc l (m + 1) - cc l m)) 0
        rw [wrap_id (x := wt l m + pp l m) (by omega) (by omega), wrap_id (by omega) (by omega)]
      rw [hm] at nx ⊢
      rw [e, e2]
      exact ev_neg (by omega) (ev_pos (by omega) (ev_pos (by omega) (ev_pos (by omega) (ev_pos (by omega) (ev_pos (by omega) nx)))))
theorem sWaitsOf_ev {l : List S42} (h : COK l) : Ev (fun k => spec_WaitsOf.f k l) (tab l.length (wt l)) := by
  unfold spec_WaitsOf.f spec_GapsOf.f
  refine Ev.bind (a := tab (l.length - 1) (fun j => cc l (j + 1) - cc l j)) ?_ (sWaitsOf_l0 h l.length [] (by simp) (fun j hj => by simp at hj))
  by_cases z : l.length = 0
  · refine ev_succ ?_
    simp only [spec_GapsOf.l0]
    exact ev_neg (by omega) (ev_some (eq_tab (by simp; omega) (fun i hi => by omega)))
  · exact sGapsOf_l0 h (l.length - 1) [] (by simp; omega) (fun j hj => by simp at hj)
theorem sWorkBy_l0 {l : List S42} (h : COK l) : ∀ (d i : Nat), i + d = l.length → Ev (fun k => spec_WorkBy.l0 k l (sg (wb l) i) (tab l.length (wt l)) (i : Int)) (sg (wb l) l.length) := by
  have n := clen h
  have tl := tab_len l.length (wt l)
  intro d
  induction d with
  | zero =>
    intro i hi
    obtain rfl : i = l.length := by omega
    refine ev_succ ?_
    simp only [spec_WorkBy.l0]
    exact ev_neg (by omega) (Ev.now _)
  | succ d ih =>
    intro i hi
    have a := wb_in h i (by omega)
    have b0 := wbs_in h i (by omega)
    have b := wbs_in h (i + 1) (by omega)
    have p := pp_in h (i := i) (by omega)
    have c : sg (wb l) (i + 1) = sg (wb l) i + (pp l i * wt l i + Int.tdiv (pp l i * (pp l i + 1)) 2) := rfl
    have c' : sg (wb l) i + pp l i * wt l i + Int.tdiv (pp l i * (pp l i + 1)) 2 = sg (wb l) (i + 1) := by omega
    have pd : (rd_T42 l (i : Int)).f1 = pp l i := rfl
    refine ev_succ ?_
    simp only [spec_WorkBy.l0, pd]
    rw [wrap_succ (i := i) (by omega), rd_tab _ _ _ (by omega), wrap_id (x := pp l i + 1) (by omega) (by omega), wrap_id (x := pp l i * (pp l i + 1)) (by omega) (by omega), wrap_id (x := pp l i * wt l i) (by omega) (by omega), wrap_id (x := Int.tdiv _ 2) (by omega) (by omega), wrap_id (x := sg (wb l) i + pp l i * wt l i) (by omega) (by omega), wrap_id (x := sg (wb l) i + pp l i * wt l i + _) (by omega) (by omega), c']
    exact ev_pos (by omega) (ev_pos (by omega) (ev_pos (by omega) (ih (i + 1) (by omega))))
theorem sWorkBy_ev (l : List S42) (hl : l.length ≤ 9223372036854775806) : Ev (fun k => spec_WorkBy.f k l) (WBV l) := by
  unfold spec_WorkBy.f
  refine Ev.bind (sCustomersOk_ev l hl) ?_
  by_cases h : COK l
  · rw [WBV_pos h]
    exact ev_pos (dec_pos h) (Ev.bind (sWaitsOf_ev h) (sWorkBy_l0 h l.length 0 (by omega)))
  · exact ev_neg (by rw [dec_neg h]; simp) (ev_some (WBV_neg h).symm)
/-- One unit more for customer m. -/
def mo (l : List S42) (m : Nat) : List S42 := l.set m ⟨cc l m, pp l m + 1⟩
theorem mo_len (l : List S42) (m : Nat) : (mo l m).length = l.length := by simp [mo]
theorem cc_mo {l : List S42} {m : Nat} (h : m < l.length) (i : Nat) : cc (mo l m) i = cc l i := by
  show (rd_T42 (l.set m _) (i : Int)).f0 = (rd_T42 l (i : Int)).f0
  rw [sCustomer_set _ _ _ _ h]
  split
  · rename_i e; rw [e]; rfl
  · rfl
theorem pp_mo {l : List S42} {m : Nat} (h : m < l.length) (i : Nat) : pp (mo l m) i = if i = m then pp l m + 1 else pp l i := by
  show (rd_T42 (l.set m _) (i : Int)).f1 = _
  rw [sCustomer_set _ _ _ _ h]
  split
  · rfl
  · rfl
theorem mo_ok {l : List S42} {m : Nat} (h : COK l) (hm : m < l.length) (hp : pp l m ≠ 9) : COK (mo l m) := by
  refine ⟨fun j _ hj => ?_, by rw [mo_len]; exact h.2⟩
  rw [mo_len] at hj
  have a := h.1 j (Nat.zero_le _) hj
  have e0 : (rd_T42 (mo l m) (j : Int)).f0 = (rd_T42 l (j : Int)).f0 := cc_mo hm j
  have e1 : (rd_T42 (mo l m) (j : Int)).f1 = if j = m then pp l m + 1 else pp l j := pp_mo hm j
  unfold CIn
  refine ⟨by rw [e0]; exact a.1, ?_, fun hj0 => ?_⟩
  · rw [e1]
    split
    · have := pp_in h hm; omega
    · exact a.2.1
  · have c := a.2.2 hj0
    have ej : ((j : Int) - 1) = ((j - 1 : Nat) : Int) := by omega
    have e2 : (rd_T42 (mo l m) ((j - 1 : Nat) : Int)).f0 = (rd_T42 l ((j - 1 : Nat) : Int)).f0 := cc_mo hm (j - 1)
    rw [ej] at c ⊢
    rw [e0, e2]; exact c
theorem wt_mo {l : List S42} {m : Nat} (hm : m < l.length) : ∀ i : Nat, i ≤ m → wt (mo l m) i = wt l i
  | 0, _ => rfl
  | i + 1, hi => by
    simp only [wt]
    rw [wt_mo hm i (by omega), cc_mo hm, cc_mo hm, pp_mo hm, if_neg (by omega)]
theorem tri_step {p : Int} (h : 1 ≤ p ∧ p ≤ 8) : Int.tdiv ((p + 1) * (p + 1 + 1)) 2 = Int.tdiv (p * (p + 1)) 2 + p + 1 := by
  have c : p = 1 ∨ p = 2 ∨ p = 3 ∨ p = 4 ∨ p = 5 ∨ p = 6 ∨ p = 7 ∨ p = 8 := by omega
  rcases c with rfl | rfl | rfl | rfl | rfl | rfl | rfl | rfl <;> decide
theorem WBV_mo {l : List S42} {m : Nat} (h : COK l) (hm : l.length = m + 1) (hp : pp l m ≠ 9) : WBV (mo l m) = WBV l + wt l m + pp l m + 1 := by
  have p := pp_in h (i := m) (by omega)
  rw [WBV_pos h, WBV_pos (mo_ok h (by omega) hp), mo_len, hm]
  simp only [sg]
  rw [sg_congr (f := wb (mo l m)) (g := wb l) m (fun i hi => by
    unfold wb
    rw [pp_mo (by omega), if_neg (by omega), wt_mo (by omega) i (by omega)])]
  unfold wb
  rw [pp_mo (by omega), if_pos rfl, wt_mo (by omega) m (Nat.le_refl _), tri_step (by omega), Int.add_mul, Int.one_mul]
  omega
theorem iNeedingMore_neg {l : List S42} (h : COK l) (hl : l.length ≤ 1048576) : l.length = 0 → Ev (fun k => impl_NeedingMore.f k l (-1)) ([], false) := by
  intro _
  unfold impl_NeedingMore.f
  exact Ev.bind (iCustomersOk_ev l (by omega)) (ev_pos (dec_pos h) (ev_pos (by omega) (Ev.now _)))
theorem iNeedingMore_ev {l : List S42} (h : COK l) (m : Nat) (hm : m < l.length) : Ev (fun k => impl_NeedingMore.f k l (m : Int)) (if pp l m = 9 then ([], false) else (mo l m, true)) := by
  have n := clen h
  have p := pp_in h hm
  unfold impl_NeedingMore.f
  refine Ev.bind (iCustomersOk_ev l (by omega)) (ev_pos (dec_pos h) (ev_neg (by omega) (ev_neg (by omega) (ev_pos (by omega) (ev_pos (by omega) ?_)))))
  by_cases c : pp l m = 9
  · rw [if_pos c]
    exact ev_pos c (Ev.now _)
  · rw [if_neg c]
    have hc : impl_Customer.f l = some l := if_pos (by omega)
    have e : wrap64 ((rd_T42 l (m : Int)).f1 + 1) = pp l m + 1 := wrap_id (by show _ ≤ pp l m + 1; omega) (by show pp l m + 1 ≤ _; omega)
    refine ev_neg c ?_
    rw [hc]
    simp only [Option.bind_some, e]
    exact ev_pos (by omega) (Ev.now _)
/-- Bytes. -/
def BY (l : List Int) : Prop := l.length ≤ 2000 ∧ ∀ j : Nat, j < l.length → 0 ≤ rd l (j : Int) ∧ rd l (j : Int) ≤ 255
theorem by_of {l : List Int} (h : ∀ x ∈ l, (Lit.int .u8 x).wf = true) (j : Nat) (hj : j < l.length) : 0 ≤ rd l (j : Int) ∧ rd l (j : Int) ≤ 255 := by
  have h1 := h _ (rd_mem hj)
  have h2 : (decide (IntKind.u8.min ≤ rd l (j : Int)) && decide (rd l (j : Int) ≤ IntKind.u8.max)) = true := h1
  have a : IntKind.u8.min = 0 := by decide
  have b : IntKind.u8.max = 255 := by decide
  rw [a, b] at h2
  simpa using h2
theorem xor_nonneg {a b : Int} (ha : 0 ≤ a) (ha2 : a < 4611686018427387904) (hb : 0 ≤ b) (hb2 : b < 4611686018427387904) : 0 ≤ Go.bits .xor .i64 a b := by
  obtain ⟨m, rfl⟩ := Int.eq_ofNat_of_zero_le ha
  obtain ⟨n, rfl⟩ := Int.eq_ofNat_of_zero_le hb
  have hm : m < 2 ^ 62 := by omega
  have hn : n < 2 ^ 62 := by omega
  have hx : m ^^^ n < 2 ^ 62 := Nat.xor_lt_two_pow hm hn
  have e : Go.bits .xor .i64 (m : Int) (n : Int) = Go.IntKind.wrap .i64 ((m ^^^ n : Nat) : Int) := by
    show Go.IntKind.wrap .i64 ((BitVec.ofInt 64 (m : Int) ^^^ BitVec.ofInt 64 (n : Int)).toNat : Int) = _
    rw [BitVec.ofInt_natCast, BitVec.ofInt_natCast, BitVec.toNat_xor, BitVec.toNat_ofNat, BitVec.toNat_ofNat, Nat.mod_eq_of_lt (by omega), Nat.mod_eq_of_lt (by omega)]
  rw [e, Go.IntKind.wrap_i64]
  omega
theorem tmod_in {x n : Int} (h : 0 ≤ x) (hn : 0 < n) : 0 ≤ Int.tmod x n ∧ Int.tmod x n < n := ⟨Int.tmod_nonneg _ h, Int.tmod_lt_of_pos _ hn⟩
theorem rd_by {l : List Int} (h : BY l) (x : Int) (h0 : 0 ≤ x) (h1 : x < (l.length : Int)) : 0 ≤ rd l x ∧ rd l x ≤ 255 := by
  obtain ⟨m, rfl⟩ := Int.eq_ofNat_of_zero_le h0
  exact h.2 m (by omega)
theorem pick_ev {l : List Int} (h : BY l) {p : Int} (h0 : 0 ≤ p) (hp : p ≤ 1073741824) (n : Int) : ∃ v, Ev (fun k => spec_l20Rd_pick.f k l p n) (v, p + 1) ∧ 0 ≤ v ∧ (0 < n → v < n) := by
  unfold spec_l20Rd_pick.f
  rw [wrap_id (x := p + 1) (by omega) (by omega)]
  by_cases hn : n < 1
  · refine ⟨0, ev_pos hn (ev_succ ?_), Int.le_refl _, fun h => h⟩
    simp only [spec_l20Rd_pick.j0]
    exact ev_pos (by simp) (Ev.now _)
  · have hl := h.1
    by_cases hz : l.length = 0
    · refine ⟨0, ev_neg hn (ev_succ ?_), Int.le_refl _, fun h => h⟩
      simp only [spec_l20Rd_pick.j0]
      exact ev_pos (by simp [hz]) (Ev.now _)
    · have e1 : wrap64 (p + 1 - 1) = p := by rw [wrap_id (by omega) (by omega)]; omega
      by_cases hlt : p < (l.length : Int)
      · have hb := rd_by h p h0 hlt
        refine ⟨Int.tmod (wrap64 (rd l p)) n, ev_neg hn (ev_succ ?_), ?_⟩
        · simp only [spec_l20Rd_pick.j0, e1]
          exact ev_neg (by rw [beq_iff_eq]; omega) (ev_pos hlt (ev_pos h0 (ev_neg (by omega) (Ev.now _))))
        · rw [wrap_id (by omega) (by omega)]
          exact ⟨(tmod_in hb.1 (by omega)).1, fun _ => (tmod_in hb.1 (by omega)).2⟩
      · have b1 := tmod_in h0 (n := (l.length : Int)) (by omega)
        have r1 := rd_by h _ b1.1 b1.2
        have e2 : wrap64 (wrap64 (p * 7) + 3) = p * 7 + 3 := by rw [wrap_id (x := p * 7) (by omega) (by omega), wrap_id (by omega) (by omega)]
        have b2 := tmod_in (x := p * 7 + 3) (by omega) (n := (l.length : Int)) (by omega)
        have r2 := rd_by h _ b2.1 b2.2
        have d1 : 0 ≤ Int.tdiv p (l.length : Int) := Int.tdiv_nonneg h0 (by omega)
        have d2 : Int.tdiv p (l.length : Int) ≤ p := Int.tdiv_le_self _ h0
        obtain ⟨x, hx⟩ : ∃ x, x = rd l (Int.tmod p (l.length : Int)) * 131 + rd l (Int.tmod (p * 7 + 3) (l.length : Int)) * 1117 + p * 29 + Int.tdiv p (l.length : Int) * 53 := ⟨_, rfl⟩
        have ex : wrap64 (wrap64 (wrap64 (wrap64 (wrap64 (rd l (Int.tmod p (l.length : Int))) * 131) + wrap64 (wrap64 (rd l (Int.tmod (p * 7 + 3) (l.length : Int))) * 1117)) + wrap64 (p * 29)) + wrap64 (wrap64 (Int.tdiv p (l.length : Int)) * 53)) = x := by
          rw [wrap_id (x := rd l (Int.tmod p (l.length : Int))) (by omega) (by omega), wrap_id (x := rd l (Int.tmod (p * 7 + 3) (l.length : Int))) (by omega) (by omega), wrap_id (x := Int.tdiv p (l.length : Int)) (by omega) (by omega),
            wrap_id (x := rd l (Int.tmod p (l.length : Int)) * 131) (by omega) (by omega), wrap_id (x := rd l (Int.tmod (p * 7 + 3) (l.length : Int)) * 1117) (by omega) (by omega), wrap_id (x := p * 29) (by omega) (by omega),
            wrap_id (x := Int.tdiv p (l.length : Int) * 53) (by omega) (by omega), wrap_id (x := rd l (Int.tmod p (l.length : Int)) * 131 + _) (by omega) (by omega), wrap_id (x := rd l (Int.tmod p (l.length : Int)) * 131 + rd l (Int.tmod (p * 7 + 3) (l.length : Int)) * 1117 + p * 29) (by omega) (by omega), wrap_id (by omega) (by omega), hx]
        have hx0 : 0 ≤ x := by omega
        have hx1 : x < 4611686018427387904 := by omega
        have d3 : 0 ≤ Int.tdiv x 64 := Int.tdiv_nonneg hx0 (by omega)
        have d4 : Int.tdiv x 64 ≤ x := Int.tdiv_le_self _ hx0
        have e3 : wrap64 (Int.tdiv x 64) = Int.tdiv x 64 := wrap_id (by omega) (by omega)
        have hxor := xor_nonneg hx0 hx1 d3 (by omega)
        refine ⟨Int.tmod (Go.bits .xor .i64 x (Int.tdiv x 64)) n, ev_neg hn (ev_succ ?_), (tmod_in hxor (by omega)).1, fun _ => (tmod_in hxor (by omega)).2⟩
        simp only [spec_l20Rd_pick.j0, e1, e2, ex, e3]
        exact ev_neg (by rw [beq_iff_eq]; omega) (ev_neg hlt (ev_neg (by omega) (ev_pos b1.1 (ev_pos b1.2 (ev_pos b2.1 (ev_pos b2.2 (ev_neg (by omega) (Ev.now _))))))))
theorem odd_ev {l : List Int} (h : BY l) {p : Int} (h0 : 0 ≤ p) (hp : p ≤ 1073741824) (n : Int) : ∃ b q, Ev (fun k => spec_l20Rd_odd.f k l p n) (b, q) ∧ 0 ≤ q ∧ q ≤ p + 1 := by
  unfold spec_l20Rd_odd.f
  by_cases hn : n > 0
  · obtain ⟨v, hv, _⟩ := pick_ev h h0 hp n
    exact ⟨_, _, ev_pos hn (Ev.bind hv (Ev.now _)), by simp only; omega, by simp only; omega⟩
  · exact ⟨_, _, ev_neg hn (Ev.now _), h0, by omega⟩
theorem l20Customers_l0 {B : List Int} (h : BY B) (n wide hi : Int) (hw : 1 ≤ wide ∧ wide ≤ 5) (hh : 1 ≤ hi ∧ hi ≤ 9) : ∀ (d : Nat) (o : List S42) (t p : Int), 0 ≤ p → p + 2 * d ≤ 1073741000 → o.length + d ≤ 100 →
    ∃ c q, Ev (fun k => spec_l20Customers.l0 k n o t wide hi (d : Int) B p) (c, q) ∧ c.length ≤ 101 ∧ 0 ≤ q ∧ q ≤ p + 2 * d + 3 := by
  intro d
  induction d with
  | zero =>
    intro o t p h0 hp ho
    obtain ⟨b, q, hb, hq0, hq⟩ := odd_ev h h0 (by omega) n
    cases b with
    | true =>
      obtain ⟨v, hv, hv0, hv3⟩ := pick_ev h hq0 (by omega) 3
      by_cases e0 : v = 0
      · refine ⟨[⟨3, 1⟩, ⟨2, 1⟩], q + 1, ev_succ ?_, by simp, by omega, by omega⟩
        simp only [spec_l20Customers.l0]
        exact ev_neg (by simp) (Ev.bind hb (ev_pos rfl (Ev.bind hv (ev_pos e0 (Ev.now _)))))
      · by_cases e1 : v = 1
        · refine ⟨o ++ [⟨60, 0⟩], q + 1, ev_succ ?_, by simp; omega, by omega, by omega⟩
          simp only [spec_l20Customers.l0]
          exact ev_neg (by simp) (Ev.bind hb (ev_pos rfl (Ev.bind hv (ev_neg e0 (ev_pos e1 (ev_pos (by omega) (Ev.now _)))))))
        · obtain ⟨u, hu, hu0, hu2⟩ := pick_ev h (p := q + 1) (by omega) (by omega) 2
          have hu2 := hu2 (by omega)
          refine ⟨[⟨rd [-1, 61] u, 1⟩], q + 1 + 1, ev_succ ?_, by simp, by omega, by omega⟩
          simp only [spec_l20Customers.l0]
          exact ev_neg (by simp) (Ev.bind hb (ev_pos rfl (Ev.bind hv (ev_neg e0 (ev_neg e1 (Ev.bind (Ev.now _) (Ev.bind hu (ev_pos hu0 (ev_pos (by simp; omega) (Ev.now _))))))))))
    | false =>
      refine ⟨o, q, ev_succ ?_, by omega, by omega, by omega⟩
      simp only [spec_l20Customers.l0]
      exact ev_neg (by simp) (Ev.bind hb (ev_neg (by simp) (Ev.now _)))
  | succ d ih =>
    intro o t p h0 hp ho
    obtain ⟨v, hv, hv0, _⟩ := pick_ev h h0 (by omega) hi
    obtain ⟨u, hu, hu0, _⟩ := pick_ev h (p := p + 1) (by omega) (by omega) (wrap64 (wide + 1))
    obtain ⟨c, q, ht, hl, hq0, hq⟩ := ih (o ++ [⟨t, wrap64 (1 + v)⟩]) (wrap64 (t + u)) (p + 1 + 1) (by omega) (by omega) (by simp; omega)
    refine ⟨c, q, ev_succ ?_, hl, hq0, by omega⟩
    simp only [spec_l20Customers.l0]
    refine ev_pos (by omega) (Ev.bind hv (ev_pos (by omega) (Ev.bind hu ?_)))
    rw [show wrap64 (((d + 1 : Nat) : Int) - 1) = (d : Int) by rw [wrap_id (by omega) (by omega)]; omega]
    exact ht
theorem l20Customers_ev {B : List Int} (h : BY B) {p : Int} (h0 : 0 ≤ p) (hp : p ≤ 1000000) (n : Int) : ∃ c q, Ev (fun k => spec_l20Customers.f k B p n) (c, q) ∧ c.length ≤ 101 ∧ 0 ≤ q ∧ q ≤ p + 30 := by
  unfold spec_l20Customers.f
  obtain ⟨t, ht, _, _⟩ := pick_ev h h0 (by omega) 3
  obtain ⟨w, hw, hw0, hw5⟩ := pick_ev h (p := p + 1) (by omega) (by omega) 5
  obtain ⟨v, hv, hv0, hv2⟩ := pick_ev h (p := p + 1 + 1) (by omega) (by omega) 2
  obtain ⟨u, hu, hu0, hu9⟩ := pick_ev h (p := p + 1 + 1 + 1) (by omega) (by omega) 9
  have hw5 := hw5 (by omega)
  have hh : 1 ≤ rd [3, 9] v ∧ rd [3, 9] v ≤ 9 := by
    have : v = 0 ∨ v = 1 := by have := hv2 (by omega); omega
    rcases this with rfl | rfl <;> decide
  have hv2 := hv2 (by omega)
  have hu9 := hu9 (by omega)
  obtain ⟨d, rfl⟩ := Int.eq_ofNat_of_zero_le hu0
  obtain ⟨c, q, hc, hl, hq0, hq⟩ := l20Customers_l0 h n (wrap64 (1 + w)) _ (by rw [wrap_id (by omega) (by omega)]; omega) hh d [] t (p + 1 + 1 + 1 + 1) (by omega) (by omega) (by simp; omega)
  exact ⟨c, q, Ev.bind ht (Ev.bind hw (Ev.bind (Ev.now _) (Ev.bind hv (ev_pos hv0 (ev_pos (by simp; omega) (Ev.bind hu hc)))))), hl, hq0, by omega⟩
theorem open_ev {l : List Int} (h : ∀ x ∈ l, (Lit.int .u8 x).wf = true) : ∃ q, BY q ∧ Ev (fun _ => spec_l20Open.f l) (q, 0) := by
  unfold spec_l20Open.f
  by_cases h1 : (l.length : Int) > 2000
  · refine ⟨l.take 2000, ⟨by rw [List.length_take]; omega, fun j hj => ?_⟩, ev_pos h1 (ev_pos (by omega) (Ev.now _))⟩
    rw [List.length_take] at hj
    rw [rd_take _ _ _ (by omega)]
    exact by_of h j (by omega)
  · exact ⟨l, ⟨by omega, fun j hj => by_of h j hj⟩, ev_neg h1 (Ev.now _)⟩
theorem alive_ev : Ev (fun k => laws_alive.f k) true := by
  unfold laws_alive.f
  refine Ev.bind (iCustomersOk_ev _ (by decide)) (ev_pos (dec_pos ?_) (Ev.bind (iCustomersOk_ev _ (by decide)) (ev_some ?_)))
  · refine ⟨fun j _ hj => ?_, by decide⟩
    obtain rfl : j = 0 := by simp at hj; omega
    exact ⟨by decide, by decide, fun h => absurd h (by decide)⟩
  · rw [dec_neg]
    · rfl
    · intro h
      exact absurd (h.1 0 (Nat.le_refl _) (by decide)).2.1.1 (by decide)
theorem FnWorkBy : laws_FnWorkBy.Pure := by
  intro l0 _ _ hb
  refine Ev.rounds ?_
  unfold laws_FnWorkBy.f spec_DrawWorkBy.f
  by_cases h : (l0.length : Int) > 1048576
  · exact ev_pos h (Ev.now _)
  · obtain ⟨B, hB, ho⟩ := open_ev hb
    obtain ⟨l, q, hc, hl, _, _⟩ := l20Customers_ev hB (p := 0) (by omega) (by omega) 9
    refine ev_neg h (Ev.bind (Ev.bind ho (Ev.bind hc (Ev.now _))) ?_)
    refine Ev.bind (iWorkBy_ev l (by omega)) (Ev.bind (sWorkBy_ev l (by omega)) (ev_pos rfl ?_))
    by_cases ok : COK l
    · have wn := wbs_in ok l.length (Nat.le_refl _)
      have n := clen ok
      rw [← WBV_pos ok] at wn
      refine ev_neg (by omega) ?_
      by_cases z : l.length = 0
      · have e : wrap64 ((l.length : Int) - 1) = -1 := by rw [wrap_id (by omega) (by omega)]; omega
        have v : WBV l = 0 := by rw [WBV_pos ok, z]; rfl
        simp only [e]
        exact Ev.bind (iNeedingMore_neg ok (by omega) z) (Ev.bind (sWaitsOf_ev ok) (ev_neg (by simp) (ev_neg (by omega) (ev_pos v (Ev.bind alive_ev (Ev.now _))))))
      · obtain ⟨m, hm⟩ : ∃ m, l.length = m + 1 := ⟨l.length - 1, by omega⟩
        have e : wrap64 ((l.length : Int) - 1) = (m : Int) := by rw [wrap_id (by omega) (by omega)]; omega
        have tl := tab_len l.length (wt l)
        have p := pp_in ok (i := m) (by omega)
        have w := wt_in ok m (by omega)
        simp only [e]
        refine Ev.bind (iNeedingMore_ev ok m (by omega)) (Ev.bind (sWaitsOf_ev ok) ?_)
        by_cases c : pp l m = 9
        · rw [if_pos c]
          exact ev_neg (by simp) (ev_pos (by omega) (Ev.bind alive_ev (Ev.now _)))
        · rw [if_neg c]
          have pd : (rd_T42 l (m : Int)).f1 = pp l m := rfl
          refine ev_pos rfl (ev_pos (by omega) (Ev.bind (iWorkBy_ev (mo l m) (by rw [mo_len]; omega)) (ev_pos (by omega) (ev_pos (by omega) (ev_pos (by omega) (ev_pos ?_ (Ev.bind alive_ev (Ev.now _))))))))
          rw [rd_tab _ _ _ (by omega), pd, wrap_id (x := WBV l + wt l m) (by omega) (by omega), wrap_id (x := WBV l + wt l m + pp l m) (by omega) (by omega), wrap_id (x := WBV l + wt l m + pp l m + 1) (by omega) (by omega)]
          exact WBV_mo ok hm c
    · rw [WBV_neg ok]
      exact ev_pos (by omega) (ev_pos rfl (Ev.bind alive_ev (Ev.now _)))
end Go.Proofs.Ytlainmahnfnhkaa.Pure
