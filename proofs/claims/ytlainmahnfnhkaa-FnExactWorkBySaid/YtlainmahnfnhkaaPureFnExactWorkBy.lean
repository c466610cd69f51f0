/- The law FnExactWorkBy holds for every input; nothing is assumed. -/
import Derived.Test.YtlainmahnfnhkaaPFnExactWorkByx5
namespace Go.Proofs.Ytlainmahnfnhkaa.Pure
open Go.RowKit Go.Proofs.Ytlainmahnfnhkaa.PFnExactWorkBy Go.Proofs.YtlainmahnfnhkaaW.PrintWords Go.Proofs.YtlainmahnfnhkaaW.PrintLast Go.Proofs.YtlainmahnfnhkaaW.PrintMore
set_option linter.unusedVariables false
set_option linter.unusedSimpArgs false
theorem ev_succ {α : Type} {g : Nat → Option α} {r : α} (h : Ev (fun k => g (k + 1)) r) : Ev g r := Ev.step (fun _ => rfl) h
theorem ev_pos {α : Type} {c : Prop} [Decidable c] {f g : Nat → Option α} {r : α} (h : c) (k : Ev f r) : Ev (fun n => if c then f n else g n) r := Ev.congr (fun _ => if_pos h) k
theorem ev_neg {α : Type} {c : Prop} [Decidable c] {f g : Nat → Option α} {r : α} (h : ¬c) (k : Ev g r) : Ev (fun n => if c then f n else g n) r := Ev.congr (fun _ => if_neg h) k
theorem ev_some {α : Type} {x r : α} (h : x = r) : Ev (fun _ => some x) r := h ▸ Ev.now x
theorem ev_to {α : Type} {g : Nat → Option α} {a r : α} (h : Ev g a) (e : a = r) : Ev g r := e ▸ h
/-- Whether P. -/
noncomputable def dec (P : Prop) : Bool := @decide P (Classical.propDecidable P)
theorem dec_iff {P : Prop} : dec P = true ↔ P := @decide_eq_true_iff P (Classical.propDecidable P)
theorem dec_pos {P : Prop} (h : P) : dec P = true := dec_iff.2 h
theorem dec_neg {P : Prop} (h : ¬P) : dec P = false := by
  cases e : dec P
  · rfl
  · exact absurd (dec_iff.1 e) h
theorem dec_congr {P Q : Prop} (h : P ↔ Q) : dec P = dec Q := by rw [propext h]
theorem dec_of {P : Prop} [Decidable P] : decide P = dec P := by
  by_cases h : P
  · rw [dec_pos h, decide_eq_true h]
  · rw [dec_neg h, decide_eq_false h]
theorem dec_bool {b : Bool} : b = dec (b = true) := by
  cases b
  · exact (dec_neg (by simp)).symm
  · exact (dec_pos rfl).symm
/-- From i on: at i, and from i + 1 on. -/
theorem from_step {i n : Nat} {Q : Nat → Prop} (h : i < n) : (∀ j, i ≤ j → j < n → Q j) ↔ Q i ∧ ∀ j, i + 1 ≤ j → j < n → Q j := by
  constructor
  · exact fun a => ⟨a i (Nat.le_refl _) h, fun j h1 h2 => a j (by omega) h2⟩
  · intro a j h1 h2
    by_cases e : j = i
    · exact e ▸ a.1
    · exact a.2 j (by omega) h2
theorem from_end {n : Nat} {Q : Nat → Prop} : ∀ j, n ≤ j → j < n → Q j := fun j h1 h2 => by omega
theorem wrap_id {x : Int} (h0 : -9223372036854775808 ≤ x) (h1 : x ≤ 9223372036854775807) : wrap64 x = x := by unfold wrap64; omega
theorem wrap_succ {i : Nat} (h : i ≤ 9223372036854775806) : wrap64 ((i : Int) + 1) = ((i + 1 : Nat) : Int) := by unfold wrap64; omega
theorem wrap_pred {i : Nat} (h : i ≤ 9223372036854775806) : wrap64 ((i : Int) - 1) = (i : Int) - 1 := by unfold wrap64; omega
/-- The bounds of a number of the kind int. -/
def I64 (x : Int) : Prop := -9223372036854775808 ≤ x ∧ x ≤ 9223372036854775807
theorem i64_wf {x : Int} (h : (Lit.int .i64 x).wf = true) : I64 x := by
  have h' : (decide (IntKind.i64.min ≤ x) && decide (x ≤ IntKind.i64.max)) = true := h
  have a : IntKind.i64.min = -9223372036854775808 := by decide
  have b : IntKind.i64.max = 9223372036854775807 := by decide
  rw [a, b] at h'
  simpa [I64] using h'
theorem sCustomer_nat (l : List S42) (i : Nat) : rd_T42 l (i : Int) = l.getD i z42 := rfl
theorem sCustomer_get {l : List S42} {i : Nat} (h : i < l.length) : rd_T42 l (i : Int) = l[i] := by
  rw [sCustomer_nat, List.getD_eq_getElem?_getD, List.getElem?_eq_getElem h]; rfl
theorem sCustomer_set (l : List S42) (i j : Nat) (v : S42) (h : i < l.length) : rd_T42 (l.set i v) (j : Int) = if j = i then v else rd_T42 l (j : Int) := by
  rw [sCustomer_nat, sCustomer_nat, List.getD_eq_getElem?_getD, List.getElem?_set]
  by_cases e : i = j
  · subst e; rw [if_pos rfl, if_pos h, if_pos rfl]; rfl
  · rw [if_neg e, if_neg (fun x => e x.symm), ← List.getD_eq_getElem?_getD]
theorem sCustomer_app (l : List S42) (v : S42) (j : Nat) : rd_T42 (l ++ [v]) (j : Int) = if j < l.length then rd_T42 l (j : Int) else if j = l.length then v else z42 := by
  rw [sCustomer_nat, sCustomer_nat, List.getD_eq_getElem?_getD, List.getD_eq_getElem?_getD, List.getElem?_append]
  by_cases h : j < l.length
  · rw [if_pos h, if_pos h]
  · rw [if_neg h, if_neg h]
    by_cases e : j = l.length
    · subst e; rw [if_pos rfl]; simp
    · rw [if_neg e, List.getElem?_eq_none (by simp; omega)]; rfl
theorem sCustomer_take (l : List S42) (n j : Nat) (h : j < n) : rd_T42 (l.take n) (j : Int) = rd_T42 l (j : Int) := by
  rw [sCustomer_nat, sCustomer_nat, List.getD_eq_getElem?_getD, List.getElem?_take, if_pos h, ← List.getD_eq_getElem?_getD]
theorem sCustomer_drop (l : List S42) (n j : Nat) : rd_T42 (l.drop n) (j : Int) = rd_T42 l ((n + j : Nat) : Int) := by
  rw [sCustomer_nat, sCustomer_nat, List.getD_eq_getElem?_getD, List.getElem?_drop, ← List.getD_eq_getElem?_getD]
theorem sCustomer_ext {a b : List S42} (hl : a.length = b.length) (h : ∀ j : Nat, j < a.length → rd_T42 a (j : Int) = rd_T42 b (j : Int)) : a = b := by
  refine List.ext_getElem hl fun j h1 h2 => ?_
  have := h j h1
  rw [sCustomer_get h1, sCustomer_get h2] at this
  exact this
def CIn (l : List S42) (j : Nat) : Prop := (0 ≤ (rd_T42 l (j : Int)).f0 ∧ (rd_T42 l (j : Int)).f0 ≤ 60) ∧ (1 ≤ (rd_T42 l (j : Int)).f1 ∧ (rd_T42 l (j : Int)).f1 ≤ 9) ∧ (0 < j → (rd_T42 l ((j : Int) - 1)).f0 ≤ (rd_T42 l (j : Int)).f0)
/-- Customers. -/
def COK (l : List S42) : Prop := (∀ j : Nat, 0 ≤ j → j < l.length → CIn l j) ∧ (l.length : Int) ≤ 8
def cc (l : List S42) (i : Nat) : Int := (rd_T42 l (i : Int)).f0
def pp (l : List S42) (i : Nat) : Int := (rd_T42 l (i : Int)).f1
theorem cc_in {l : List S42} (h : COK l) {i : Nat} (hi : i < l.length) : 0 ≤ cc l i ∧ cc l i ≤ 60 := (h.1 i (Nat.zero_le _) hi).1
theorem pp_in {l : List S42} (h : COK l) {i : Nat} (hi : i < l.length) : 1 ≤ pp l i ∧ pp l i ≤ 9 := (h.1 i (Nat.zero_le _) hi).2.1
theorem cc_step {l : List S42} (h : COK l) {i : Nat} (hi : i + 1 < l.length) : cc l i ≤ cc l (i + 1) := by
  have := (h.1 (i + 1) (Nat.zero_le _) hi).2.2 (by omega)
  rw [show (((i + 1 : Nat) : Int) - 1) = (i : Int) by omega] at this
  exact this
theorem cc_mono {l : List S42} (h : COK l) (j : Nat) : ∀ i : Nat, i ≤ j → j < l.length → cc l i ≤ cc l j := by
  induction j with
  | zero => intro i hi _; obtain rfl : i = 0 := by omega
            exact Int.le_refl _
  | succ j ih =>
    intro i hi hj
    by_cases e : i = j + 1
    · subst e; exact Int.le_refl _
    · have := ih i (by omega) (by omega)
      have := cc_step h hj
      omega
theorem clen {l : List S42} (h : COK l) : l.length ≤ 8 := by have := h.2; omega
theorem mx_lt {a b : Int} (h : a < b) : mx a b = b := if_pos h
theorem mx_ge {a b : Int} (h : ¬ a < b) : mx a b = a := if_neg h
theorem mx_le {a b c : Int} : mx a b ≤ c ↔ a ≤ c ∧ b ≤ c := by unfold mx; split <;> omega
theorem le_mx {a b : Int} : a ≤ mx a b ∧ b ≤ mx a b := by unfold mx; split <;> omega
theorem mx_max (a b : Int) : mx a b = max a b := by unfold mx; split <;> omega
/-- The waits. -/
def wt (l : List S42) : Nat → Int
  | 0 => 0
  | i + 1 => mx (wt l i + pp l i - (cc l (i + 1) - cc l i)) 0
theorem wt_nonneg (l : List S42) : ∀ i : Nat, 0 ≤ wt l i
  | 0 => Int.le_refl _
  | i + 1 => (le_mx (a := wt l i + pp l i - (cc l (i + 1) - cc l i)) (b := 0)).2
/-- The ends, as they come. -/
def fe (l : List S42) (i : Nat) : Int := cc l i + wt l i + pp l i
theorem wt_le {l : List S42} (h : COK l) : ∀ i : Nat, i < l.length → wt l i ≤ 9 * (i : Int)
  | 0, _ => by simp [wt]
  | i + 1, hi => by
    have a := wt_le h i (by omega)
    have p := pp_in h (i := i) (by omega)
    have c := cc_step h hi
    exact mx_le.2 ⟨by omega, by omega⟩
theorem wt_in {l : List S42} (h : COK l) (i : Nat) (hi : i < l.length) : 0 ≤ wt l i ∧ wt l i ≤ 63 ∧ fe l i ≤ 140 := by
  have a := wt_le h i hi
  have w := wt_nonneg l i
  have c := cc_in h hi
  have p := pp_in h hi
  have n := clen h
  have f : fe l i = cc l i + wt l i + pp l i := rfl
  omega
/-- f 0 to f (n - 1), added. -/
def sg (f : Nat → Int) : Nat → Int
  | 0 => 0
  | n + 1 => sg f n + f n
theorem sg_congr {f g : Nat → Int} : ∀ n : Nat, (∀ i, i < n → f i = g i) → sg f n = sg g n
  | 0, _ => rfl
  | n + 1, h => by
    simp only [sg]
    rw [sg_congr n (fun i hi => h i (by omega)), h n (by omega)]
theorem sg_le {f g : Nat → Int} : ∀ n : Nat, (∀ i, i < n → f i ≤ g i) → sg f n ≤ sg g n
  | 0, _ => Int.le_refl _
  | n + 1, h => by
    have := sg_le n (fun i hi => h i (by omega))
    have := h n (by omega)
    simp only [sg]; omega
theorem sg_in {f : Nat → Int} {A B : Int} : ∀ n : Nat, (∀ i, i < n → A ≤ f i ∧ f i ≤ B) → A * (n : Int) ≤ sg f n ∧ sg f n ≤ B * (n : Int)
  | 0, _ => by simp [sg]
  | n + 1, h => by
    have a := sg_in n (fun i hi => h i (by omega))
    have b := h n (by omega)
    have e1 : A * ((n + 1 : Nat) : Int) = A * (n : Int) + A := by rw [Int.natCast_add, Int.mul_add]; simp
    have e2 : B * ((n + 1 : Nat) : Int) = B * (n : Int) + B := by rw [Int.natCast_add, Int.mul_add]; simp
    simp only [sg]
    rw [e1, e2]; omega
theorem sg_add (f g : Nat → Int) : ∀ n : Nat, sg (fun i => f i + g i) n = sg f n + sg g n
  | 0 => rfl
  | n + 1 => by simp only [sg]; rw [sg_add f g n]; omega
theorem sg_sub (f g : Nat → Int) : ∀ n : Nat, sg (fun i => f i - g i) n = sg f n - sg g n
  | 0 => rfl
  | n + 1 => by simp only [sg]; rw [sg_sub f g n]; omega
theorem sg_zero : ∀ n : Nat, sg (fun _ => 0) n = 0
  | 0 => rfl
  | n + 1 => by simp only [sg]; rw [sg_zero n]; rfl
theorem sg_swap (f : Nat → Nat → Int) (n : Nat) : ∀ m : Nat, sg (fun t => sg (fun i => f t i) n) m = sg (fun i => sg (fun t => f t i) m) n
  | 0 => by simp only [sg]; exact (sg_zero n).symm
  | m + 1 => by
    simp only [sg]
    rw [sg_swap f n m, ← sg_add]
theorem sg_split (f : Nat → Int) (n : Nat) : ∀ m : Nat, sg f (n + m) = sg f n + sg (fun i => f (n + i)) m
  | 0 => by simp [sg]
  | m + 1 => by
    show sg f (n + m) + f (n + m) = _
    simp only [sg]
    rw [sg_split f n m]; omega
theorem sg_mem {f : Nat → Int} : ∀ (n i : Nat), i < n → (∀ j, j < n → 0 ≤ f j) → f i ≤ sg f n
  | n + 1, i, hi, h => by
    simp only [sg]
    by_cases e : i = n
    · subst e
      have := (sg_in (A := 0) (B := sg f i) i (fun j hj => ⟨h j (by omega), sg_mem i j hj (fun k hk => h k (by omega))⟩)).1
      omega
    · have := sg_mem n i (by omega) (fun k hk => h k (by omega))
      have := h n (by omega)
      omega
theorem sg_nonneg {f : Nat → Int} : ∀ n : Nat, (∀ j, j < n → 0 ≤ f j) → 0 ≤ sg f n
  | 0, _ => Int.le_refl _
  | n + 1, h => by
    have := sg_nonneg n (fun j hj => h j (by omega))
    have := h n (by omega)
    simp only [sg]; omega
/-- One unit at k. -/
theorem sg_unit (k : Nat) (x : Int) : ∀ n : Nat, sg (fun i => if i = k then x else 0) n = if k < n then x else 0
  | 0 => rfl
  | n + 1 => by
    simp only [sg]
    rw [sg_unit k x n]
    by_cases e : n = k
    · rw [if_neg (by omega), if_pos e, if_pos (by omega)]; omega
    · rw [if_neg e]
      by_cases c : k < n
      · rw [if_pos c, if_pos (by omega)]; omega
      · rw [if_neg c, if_neg (by omega)]; rfl
/-- The work that customer i brings. -/
def wb (l : List S42) (i : Nat) : Int := pp l i * wt l i + Int.tdiv (pp l i * (pp l i + 1)) 2
theorem prod_in {a b A B : Int} (a0 : 0 ≤ a) (a1 : a ≤ A) (b0 : 0 ≤ b) (b1 : b ≤ B) : 0 ≤ a * b ∧ a * b ≤ A * B :=
  ⟨Int.mul_nonneg a0 b0, Int.mul_le_mul a1 b1 b0 (Int.le_trans a0 a1)⟩
theorem wb_in {l : List S42} (h : COK l) (i : Nat) (hi : i < l.length) : (0 ≤ pp l i * wt l i ∧ pp l i * wt l i ≤ 9 * 63) ∧ (0 ≤ pp l i * (pp l i + 1) ∧ pp l i * (pp l i + 1) ≤ 9 * 10) ∧ 0 ≤ Int.tdiv (pp l i * (pp l i + 1)) 2 ∧ Int.tdiv (pp l i * (pp l i + 1)) 2 ≤ 90 := by
  have p := pp_in h hi
  have w := wt_in h i hi
  have a := prod_in (a := pp l i) (b := wt l i) (A := 9) (B := 63) (by omega) (by omega) (by omega) (by omega)
  have b := prod_in (a := pp l i) (b := pp l i + 1) (A := 9) (B := 10) (by omega) (by omega) (by omega) (by omega)
  have c : Int.tdiv (pp l i * (pp l i + 1)) 2 ≤ pp l i * (pp l i + 1) := Int.tdiv_le_self _ b.1
  have d : 0 ≤ Int.tdiv (pp l i * (pp l i + 1)) 2 := Int.tdiv_nonneg b.1 (by omega)
  exact ⟨a, b, d, by omega⟩
theorem wbs_in {l : List S42} (h : COK l) (i : Nat) (hi : i ≤ l.length) : 0 ≤ sg (wb l) i ∧ sg (wb l) i ≤ 657 * (i : Int) := by
  have := sg_in (f := wb l) (A := 0) (B := 657) i (fun j hj => by have := wb_in h j (by omega); unfold wb; omega)
  omega
/-- What WorkBy answers. -/
noncomputable def WBV (l : List S42) : Int := @ite _ (COK l) (Classical.propDecidable _) (sg (wb l) l.length) (-1)
theorem WBV_pos {l : List S42} (h : COK l) : WBV l = sg (wb l) l.length := by unfold WBV; exact if_pos h
theorem WBV_neg {l : List S42} (h : ¬COK l) : WBV l = -1 := by unfold WBV; exact if_neg h
theorem iCustomersOk_l0 (l : List S42) (hl : l.length ≤ 9223372036854775806) : ∀ d i : Nat, i + d = l.length →
    Ev (fun k => impl_CustomersOk.l0 k l l (l.length : Int) (i : Int)) (dec ((∀ j : Nat, i ≤ j → j < l.length → CIn l j) ∧ (l.length : Int) ≤ 8)) := by
  intro d
  induction d with
  | zero =>
    intro i hi
    refine ev_succ ?_
    simp only [impl_CustomersOk.l0]
    refine ev_neg (by omega) (ev_some ?_)
    obtain rfl : i = l.length := by omega
    rw [dec_of]
    exact dec_congr ⟨fun h => ⟨from_end, h⟩, fun h => h.2⟩
  | succ d ih =>
    intro i hi
    refine ev_succ ?_
    simp only [impl_CustomersOk.l0]
    have hs := from_step (i := i) (n := l.length) (Q := fun j => CIn l j) (by omega)
    refine ev_pos (by omega) (ev_pos (by omega) (ev_pos (by omega) ?_))
    by_cases h1 : (rd_T42 l (i : Int)).f0 < 0
    · exact ev_pos h1 (ev_some (dec_neg (fun x => by have := (hs.1 x.1).1.1.1; omega)).symm)
    refine ev_neg h1 ?_
    by_cases h2 : (rd_T42 l (i : Int)).f0 > 60
    · exact ev_pos h2 (ev_some (dec_neg (fun x => by have := (hs.1 x.1).1.1.2; omega)).symm)
    refine ev_neg h2 ?_
    rw [wrap_succ (by omega), wrap_pred (by omega)]
    have fin : (0 < i → (rd_T42 l ((i : Int) - 1)).f0 ≤ (rd_T42 l (i : Int)).f0) → Ev (fun k => if (rd_T42 l (i : Int)).f1 < 1 then some false else if (rd_T42 l (i : Int)).f1 > 9 then some false else impl_CustomersOk.l0 k l l (l.length : Int) ((i + 1 : Nat) : Int)) (dec ((∀ j : Nat, i ≤ j → j < l.length → CIn l j) ∧ (l.length : Int) ≤ 8)) := by
      intro hp
      by_cases h3 : (rd_T42 l (i : Int)).f1 < 1
      · exact ev_pos h3 (ev_some (dec_neg (fun x => by have := (hs.1 x.1).1.2.1.1; omega)).symm)
      refine ev_neg h3 ?_
      by_cases h4 : (rd_T42 l (i : Int)).f1 > 9
      · exact ev_pos h4 (ev_some (dec_neg (fun x => by have := (hs.1 x.1).1.2.1.2; omega)).symm)
      refine ev_neg h4 (ev_to (ih (i + 1) (by omega)) (dec_congr ?_))
      rw [hs]
      exact ⟨fun x => ⟨⟨⟨⟨by omega, by omega⟩, ⟨by omega, by omega⟩, hp⟩, x.1⟩, x.2⟩, fun x => ⟨x.1.2, x.2⟩⟩
    by_cases h5 : (i : Int) > 0
    · refine ev_pos h5 (ev_pos (by omega) (ev_pos (by omega) ?_))
      by_cases h6 : (rd_T42 l (i : Int)).f0 < (rd_T42 l ((i : Int) - 1)).f0
      · exact ev_pos h6 (ev_some (dec_neg (fun x => by have := (hs.1 x.1).1.2.2 (by omega); omega)).symm)
      · exact ev_neg h6 (fin (fun _ => by omega))
    · exact ev_neg h5 (fin (fun h => by omega))
theorem iCustomersOk_ev (l : List S42) (hl : l.length ≤ 9223372036854775806) : Ev (fun k => impl_CustomersOk.f k l) (dec (COK l)) := iCustomersOk_l0 l hl l.length 0 (by omega)
theorem rd_nat (l : List Int) (i : Nat) : rd l (i : Int) = l.getD i 0 := rfl
theorem rd_set (l : List Int) (i j : Nat) (v : Int) (h : i < l.length) : rd (l.set i v) (j : Int) = if j = i then v else rd l (j : Int) := by
  rw [rd_nat, rd_nat, List.getD_eq_getElem?_getD, List.getElem?_set]
  by_cases e : i = j
  · subst e; rw [if_pos rfl, if_pos h, if_pos rfl]; rfl
  · rw [if_neg e, if_neg (fun x => e x.symm), ← List.getD_eq_getElem?_getD]
theorem rd_app (l : List Int) (v : Int) (j : Nat) : rd (l ++ [v]) (j : Int) = if j < l.length then rd l (j : Int) else if j = l.length then v else 0 := by
  rw [rd_nat, rd_nat, List.getD_eq_getElem?_getD, List.getD_eq_getElem?_getD, List.getElem?_append]
  by_cases h : j < l.length
  · rw [if_pos h, if_pos h]
  · rw [if_neg h, if_neg h]
    by_cases e : j = l.length
    · subst e; rw [if_pos rfl]; simp
    · rw [if_neg e, List.getElem?_eq_none (by simp; omega)]; rfl
theorem rd_take (l : List Int) (n j : Nat) (h : j < n) : rd (l.take n) (j : Int) = rd l (j : Int) := by
  rw [rd_nat, rd_nat, List.getD_eq_getElem?_getD, List.getElem?_take, if_pos h, ← List.getD_eq_getElem?_getD]
theorem rd_ext {a b : List Int} (hl : a.length = b.length) (h : ∀ j : Nat, j < a.length → rd a (j : Int) = rd b (j : Int)) : a = b := by
  refine List.ext_getElem hl fun j h1 h2 => ?_
  have := h j h1
  rw [rd_nat, rd_nat, List.getD_eq_getElem?_getD, List.getD_eq_getElem?_getD, List.getElem?_eq_getElem h1, List.getElem?_eq_getElem h2] at this
  exact this
theorem rd_out (l : List Int) (j : Nat) (h : l.length ≤ j) : rd l (j : Int) = 0 := by
  rw [rd_nat, List.getD_eq_getElem?_getD, List.getElem?_eq_none h]; rfl
theorem rd_mem {l : List Int} {j : Nat} (h : j < l.length) : rd l (j : Int) ∈ l := by
  rw [rd_nat, List.getD_eq_getElem?_getD, List.getElem?_eq_getElem h]; exact List.getElem_mem h
theorem rd_repl (n j : Nat) : rd (List.replicate n (0 : Int)) (j : Int) = 0 := by
  rw [rd_nat, List.getD_eq_getElem?_getD, List.getElem?_replicate]; split <;> rfl
/-- A row out of a function. -/
def tab (n : Nat) (f : Nat → Int) : List Int := (List.range n).map f
theorem tab_len (n : Nat) (f : Nat → Int) : (tab n f).length = n := by simp [tab]
theorem rd_tab (n : Nat) (f : Nat → Int) (i : Nat) (h : i < n) : rd (tab n f) (i : Int) = f i := by
  rw [rd_nat, List.getD_eq_getElem?_getD]
  unfold tab
  rw [List.getElem?_map, List.getElem?_range h]; rfl
theorem eq_tab {l : List Int} {n : Nat} {f : Nat → Int} (hl : l.length = n) (h : ∀ i : Nat, i < n → rd l (i : Int) = f i) : l = tab n f :=
  rd_ext (by rw [tab_len, hl]) (fun j hj => by rw [h j (by omega), rd_tab n f j (by omega)])
theorem tab_congr {n : Nat} {f g : Nat → Int} (h : ∀ i, i < n → f i = g i) : tab n f = tab n g :=
  eq_tab (tab_len n f) (fun i hi => by rw [rd_tab n f i hi, h i hi])
theorem mx_comm0 (x : Int) : mx 0 x = mx x 0 := by unfold mx; split <;> split <;> omega
theorem iWaitsOf_l0 {l : List S42} (h : COK l) : ∀ (d : Nat) (o : List Int), o.length + d = l.length → (∀ j : Nat, j < o.length → rd o (j : Int) = wt l j) →
    Ev (fun k => impl_WaitsOf.l0 k l o l (l.length : Int) (o.length : Int)) (tab l.length (wt l)) := by
  have n := clen h
  intro d
  induction d with
  | zero =>
    intro o ho hr
    refine ev_succ ?_
    simp only [impl_WaitsOf.l0]
    exact ev_neg (by omega) (ev_some (eq_tab (by omega) (fun i hi => hr i (by omega))))
  | succ d ih =>
    intro o ho hr
    have nx := ih (o ++ [wt l o.length]) (by simp; omega) (fun j hj => by
      rw [rd_app]
      by_cases e : j < o.length
      · rw [if_pos e]; exact hr j e
      · have ej : j = o.length := by simp at hj; omega
        rw [if_neg e, if_pos ej, ej])
    rw [List.length_append] at nx
    refine ev_succ ?_
    simp only [impl_WaitsOf.l0]
    rw [wrap_succ (i := o.length) (by omega)]
    refine ev_pos (by omega) (ev_pos (by omega) (ev_pos (by omega) ?_))
    by_cases z : o.length = 0
    · rw [z] at nx ⊢
      exact ev_neg (by omega) (ev_pos (by omega) nx)
    · obtain ⟨m, hm⟩ : ∃ m, o.length = m + 1 := ⟨o.length - 1, by omega⟩
      have a := wt_in h m (by omega)
      have p := pp_in h (i := m) (by omega)
      have c := cc_in h (i := m) (by omega)
      have c2 := cc_in h (i := m + 1) (by omega)
      have e : wrap64 (((m + 1 : Nat) : Int) - 1) = (m : Int) := by rw [wrap_id (by omega) (by omega)]; omega
      have e2 : mx 0 (wrap64 (wrap64 (rd o (m : Int) + (rd_T42 l (m : Int)).f1) - wrap64 ((rd_T42 l ((m + 1 : Nat) : Int)).f0 - (rd_T42 l (m : Int)).f0))) = wt l (m + 1) := by
        rw [hr m (by omega)]
        show mx 0 (wrap64 (wrap64 (wt l m + pp l m) - wrap64 (cc l (m + 1) - cc l m))) = mx (wt l m + pp l m - (cc l (m + 1) - cc l m)) 0
        rw [wrap_id (x := wt l m + pp l m) (by omega) (by omega), wrap_id (x := cc l (m + 1) - cc l m) (by omega) (by omega), wrap_id (by omega) (by omega), mx_comm0]
      rw [hm] at nx ⊢
      rw [e, e2]
      exact ev_pos (by omega) (ev_pos (by omega) (ev_pos (by omega) (ev_pos (by omega) (ev_pos (by omega) nx))))
theorem iWaitsOf_ev {l : List S42} (h : COK l) : Ev (fun k => impl_WaitsOf.f k l) (tab l.length (wt l)) := by
  have n := clen h
  unfold impl_WaitsOf.f
  exact Ev.bind (iCustomersOk_ev l (by omega)) (ev_pos (dec_pos h) (iWaitsOf_l0 h l.length [] (by simp) (fun j hj => by simp at hj)))
theorem iWorkBy_l0 {l : List S42} (h : COK l) : ∀ (d i : Nat), i + d = l.length → Ev (fun k => impl_WorkBy.l0 k l (sg (wb l) i) (tab l.length (wt l)) ((tab l.length (wt l)).length : Int) (i : Int)) (sg (wb l) l.length) := by
  have n := clen h
  have tl := tab_len l.length (wt l)
  intro d
  induction d with
  | zero =>
    intro i hi
    obtain rfl : i = l.length := by omega
    refine ev_succ ?_
    simp only [impl_WorkBy.l0]
    exact ev_neg (by omega) (Ev.now _)
  | succ d ih =>
    intro i hi
    have a := wb_in h i (by omega)
    have b := wbs_in h (i + 1) (by omega)
    have p := pp_in h (i := i) (by omega)
    have c : sg (wb l) (i + 1) = sg (wb l) i + (pp l i * wt l i + Int.tdiv (pp l i * (pp l i + 1)) 2) := rfl
    have pd : (rd_T42 l (i : Int)).f1 = pp l i := rfl
    refine ev_succ ?_
    simp only [impl_WorkBy.l0, pd]
    rw [wrap_succ (i := i) (by omega), rd_tab _ _ _ (by omega), wrap_id (x := pp l i + 1) (by omega) (by omega), wrap_id (x := pp l i * (pp l i + 1)) (by omega) (by omega), wrap_id (x := pp l i * wt l i) (by omega) (by omega), wrap_id (x := Int.tdiv _ 2) (by omega) (by omega), wrap_id (x := pp l i * wt l i + _) (by omega) (by omega), wrap_id (x := sg (wb l) i + _) (by omega) (by omega), ← c]
    exact ev_pos (by omega) (ev_pos (by omega) (ev_pos (by omega) (ev_pos (by omega) (ih (i + 1) (by omega)))))
theorem iWorkBy_ev (l : List S42) (hl : l.length ≤ 9223372036854775806) : Ev (fun k => impl_WorkBy.f k l) (WBV l) := by
  unfold impl_WorkBy.f
  refine Ev.bind (iCustomersOk_ev l hl) ?_
  by_cases h : COK l
  · rw [WBV_pos h]
    exact ev_pos (dec_pos h) (Ev.bind (iWaitsOf_ev h) (iWorkBy_l0 h l.length 0 (by omega)))
  · exact ev_neg (by rw [dec_neg h]; simp) (ev_some (WBV_neg h).symm)
theorem l1In_eq (a b c : Int) : spec_l1In.f a b c = some (dec (b ≤ a ∧ a ≤ c)) := by
  unfold spec_l1In.f
  by_cases h : a ≥ b
  · rw [if_pos h]
    by_cases h2 : a ≤ c
    · rw [decide_eq_true h2, dec_pos ⟨h, h2⟩]
    · rw [decide_eq_false h2, dec_neg (fun x => h2 x.2)]
  · rw [if_neg h, dec_neg (fun x => h x.1)]
theorem l1In_ev (a b c : Int) : Ev (fun _ => spec_l1In.f a b c) (dec (b ≤ a ∧ a ≤ c)) := Ev.congr (fun _ => l1In_eq a b c) (Ev.now _)
theorem sCustomersOk_l0 (l : List S42) (hl : l.length ≤ 9223372036854775806) : ∀ d i : Nat, i + d = l.length →
    Ev (fun k => spec_CustomersOk.l0 k l (i : Int)) (dec ((∀ j : Nat, i ≤ j → j < l.length → CIn l j) ∧ (l.length : Int) ≤ 8)) := by
  intro d
  induction d with
  | zero =>
    intro i hi
    refine ev_succ ?_
    simp only [spec_CustomersOk.l0]
    refine ev_neg (by omega) (ev_some ?_)
    obtain rfl : i = l.length := by omega
    rw [dec_of]
    exact dec_congr ⟨fun h => ⟨from_end, h⟩, fun h => h.2⟩
  | succ d ih =>
    intro i hi
    refine ev_succ ?_
    simp only [spec_CustomersOk.l0]
    have hs := from_step (i := i) (n := l.length) (Q := fun j => CIn l j) (by omega)
    refine ev_pos (by omega) (ev_pos (by omega) (Ev.bind (l1In_ev _ _ _) ?_))
    by_cases h1 : 0 ≤ (rd_T42 l (i : Int)).f0 ∧ (rd_T42 l (i : Int)).f0 ≤ 60
    · refine ev_pos (dec_pos h1) (Ev.bind (l1In_ev _ _ _) ?_)
      by_cases h2 : 1 ≤ (rd_T42 l (i : Int)).f1 ∧ (rd_T42 l (i : Int)).f1 ≤ 9
      · refine ev_pos (dec_pos h2) ?_
        rw [wrap_succ (by omega), wrap_pred (by omega)]
        by_cases h3 : (i : Int) > 0
        · refine ev_pos h3 (ev_pos (by omega) (ev_pos (by omega) ?_))
          by_cases h4 : (rd_T42 l (i : Int)).f0 < (rd_T42 l ((i : Int) - 1)).f0
          · exact ev_pos h4 (ev_some (dec_neg (fun x => by have := (hs.1 x.1).1.2.2 (by omega); omega)).symm)
          · refine ev_neg h4 (ev_to (ih (i + 1) (by omega)) (dec_congr ?_))
            rw [hs]
            exact ⟨fun x => ⟨⟨⟨h1, h2, fun _ => by omega⟩, x.1⟩, x.2⟩, fun x => ⟨x.1.2, x.2⟩⟩
        · refine ev_neg h3 (ev_to (ih (i + 1) (by omega)) (dec_congr ?_))
          rw [hs]
          exact ⟨fun x => ⟨⟨⟨h1, h2, fun _ => by omega⟩, x.1⟩, x.2⟩, fun x => ⟨x.1.2, x.2⟩⟩
      · exact ev_neg (by rw [dec_neg h2]; simp) (ev_some (dec_neg (fun x => h2 (hs.1 x.1).1.2.1)).symm)
    · exact ev_neg (by rw [dec_neg h1]; simp) (ev_some (dec_neg (fun x => h1 (hs.1 x.1).1.1)).symm)
theorem sCustomersOk_ev (l : List S42) (hl : l.length ≤ 9223372036854775806) : Ev (fun k => spec_CustomersOk.f k l) (dec (COK l)) := sCustomersOk_l0 l hl l.length 0 (by omega)
theorem sGapsOf_l0 {l : List S42} (h : COK l) : ∀ (d : Nat) (o : List Int), o.length + 1 + d = l.length → (∀ j : Nat, j < o.length → rd o (j : Int) = cc l (j + 1) - cc l j) →
    Ev (fun k => spec_GapsOf.l0 k l o ((o.length + 1 : Nat) : Int)) (tab (l.length - 1) (fun j => cc l (j + 1) - cc l j)) := by
  have n := clen h
  intro d
  induction d with
  | zero =>
    intro o ho hr
    refine ev_succ ?_
    simp only [spec_GapsOf.l0]
    exact ev_neg (by omega) (ev_some (eq_tab (by omega) (fun i hi => hr i (by omega))))
  | succ d ih =>
    intro o ho hr
    have a := cc_in h (i := o.length) (by omega)
    have b := cc_in h (i := o.length + 1) (by omega)
    have nx := ih (o ++ [cc l (o.length + 1) - cc l o.length]) (by simp; omega) (fun j hj => by
      rw [rd_app]
      by_cases e : j < o.length
      · rw [if_pos e]; exact hr j e
      · have ej : j = o.length := by simp at hj; omega
        rw [if_neg e, if_pos ej, ej])
    rw [List.length_append] at nx
    have e : wrap64 (((o.length + 1 : Nat) : Int) - 1) = (o.length : Int) := by rw [wrap_id (by omega) (by omega)]; omega
    have e2 : wrap64 ((rd_T42 l ((o.length + 1 : Nat) : Int)).f0 - (rd_T42 l (o.length : Int)).f0) = cc l (o.length + 1) - cc l o.length := wrap_id (by show _ ≤ cc l (o.length + 1) - cc l o.length; omega) (by show cc l (o.length + 1) - cc l o.length ≤ _; omega)
    refine ev_succ ?_
    simp only [spec_GapsOf.l0, e, e2]
    rw [wrap_succ (i := o.length + 1) (by omega)]
    exact ev_pos (by omega) (Ev.bind (sCustomersOk_ev l (by omega)) (ev_pos (dec_pos h) (ev_pos (by omega) (ev_pos (by omega) (ev_pos (by omega) (ev_pos (by omega) nx))))))
theorem sWaitsOf_l0 {l : List S42} (h : COK l) : ∀ (d : Nat) (o : List Int), o.length + d = l.length → (∀ j : Nat, j < o.length → rd o (j : Int) = wt l j) →
    Ev (fun k => spec_WaitsOf.l0 k l o (tab (l.length - 1) (fun j => cc l (j + 1) - cc l j)) (o.length : Int)) (tab l.length (wt l)) := by
  have n := clen h
  have tl := tab_len (l.length - 1) (fun j => cc l (j + 1) - cc l j)
  intro d
  induction d with
  | zero =>
    intro o ho hr
    refine ev_succ ?_
    simp only [spec_WaitsOf.l0]
    refine ev_neg (by omega) (ev_succ ?_)
    simp only [spec_WaitsOf.j1]
    exact ev_neg (by simp) (ev_some (eq_tab (by omega) (fun i hi => hr i (by omega))))
  | succ d ih =>
    intro o ho hr
    have nx := ih (o ++ [wt l o.length]) (by simp; omega) (fun j hj => by
      rw [rd_app]
      by_cases e : j < o.length
      · rw [if_pos e]; exact hr j e
      · have ej : j = o.length := by simp at hj; omega
        rw [if_neg e, if_pos ej, ej])
    rw [List.length_append] at nx
    refine ev_succ ?_
    simp only [spec_WaitsOf.l0]
    refine ev_pos (by omega) (Ev.bind (sCustomersOk_ev l (by omega)) (ev_succ ?_))
    simp only [spec_WaitsOf.j1]
    rw [wrap_succ (i := o.length) (by omega)]
    refine ev_pos (dec_pos h) ?_
    by_cases z : o.length = 0
    · rw [z] at nx ⊢
      exact ev_pos (by omega) (ev_pos (by omega) nx)
    · obtain ⟨m, hm⟩ : ∃ m, o.length = m + 1 := ⟨o.length - 1, by omega⟩
      have a := wt_in h m (by omega)
      have p := pp_in h (i := m) (by omega)
      have c := cc_in h (i := m) (by omega)
      have c2 := cc_in h (i := m + 1) (by omega)
      have e : wrap64 (((m + 1 : Nat) : Int) - 1) = (m : Int) := by rw [wrap_id (by omega) (by omega)]; omega
      have e2 : mx (wrap64 (wrap64 (rd o (m : Int) + (rd_T42 l (m : Int)).f1) - rd (tab (l.length - 1) (fun j => cc l (j + 1) - cc l j)) (m : Int))) 0 = wt l (m + 1) := by
        rw [hr m (by omega), rd_tab _ _ _ (by omega)]
        show mx (wrap64 (wrap64 (wt l m + pp l m) - (cc l (m + 1) - cc l m))) 0 = mx (wt l m + pp l m - (cc l (m + 1) - cc l m)) 0
        rw [wrap_id (x := wt l m + pp l m) (by omega) (by omega), wrap_id (by omega) (by omega)]
      rw [hm] at nx ⊢
      rw [e, e2]
      exact ev_neg (by omega) (ev_pos (by omega) (ev_pos (by omega) (ev_pos (by omega) (ev_pos (by omega) (ev_pos (by omega) nx)))))
theorem sWaitsOf_ev {l : List S42} (h : COK l) : Ev (fun k => spec_WaitsOf.f k l) (tab l.length (wt l)) := by
  unfold spec_WaitsOf.f spec_GapsOf.f
  refine Ev.bind (a := tab (l.length - 1) (fun j => cc l (j + 1) - cc l j)) ?_ (sWaitsOf_l0 h l.length [] (by simp) (fun j hj => by simp at hj))
  by_cases z : l.length = 0
  · refine ev_succ ?_
    simp only [spec_GapsOf.l0]
    exact ev_neg (by omega) (ev_some (eq_tab (by simp; omega) (fun i hi => by omega)))
  · exact sGapsOf_l0 h (l.length - 1) [] (by simp; omega) (fun j hj => by simp at hj)
theorem sWorkBy_l0 {l : List S42} (h : COK l) : ∀ (d i : Nat), i + d = l.length → Ev (fun k => spec_WorkBy.l0 k l (sg (wb l) i) (tab l.length (wt l)) (i : Int)) (sg (wb l) l.length) := by
  have n := clen h
  have tl := tab_len l.length (wt l)
  intro d
  induction d with
  | zero =>
    intro i hi
    obtain rfl : i = l.length := by omega
    refine ev_succ ?_
    simp only [spec_WorkBy.l0]
    exact ev_neg (by omega) (Ev.now _)
  | succ d ih =>
    intro i hi
    have a := wb_in h i (by omega)
    have b0 := wbs_in h i (by omega)
    have b := wbs_in h (i + 1) (by omega)
    have p := pp_in h (i := i) (by omega)
    have c : sg (wb l) (i + 1) = sg (wb l) i + (pp l i * wt l i + Int.tdiv (pp l i * (pp l i + 1)) 2) := rfl
    have c' : sg (wb l) i + pp l i * wt l i + Int.tdiv (pp l i * (pp l i + 1)) 2 = sg (wb l) (i + 1) := by omega
    have pd : (rd_T42 l (i : Int)).f1 = pp l i := rfl
    refine ev_succ ?_
    simp only [spec_WorkBy.l0, pd]
    rw [wrap_succ (i := i) (by omega), rd_tab _ _ _ (by omega), wrap_id (x := pp l i + 1) (by omega) (by omega), wrap_id (x := pp l i * (pp l i + 1)) (by omega) (by omega), wrap_id (x := pp l i * wt l i) (by omega) (by omega), wrap_id (x := Int.tdiv _ 2) (by omega) (by omega), wrap_id (x := sg (wb l) i + pp l i * wt l i) (by omega) (by omega), wrap_id (x := sg (wb l) i + pp l i * wt l i + _) (by omega) (by omega), c']
    exact ev_pos (by omega) (ev_pos (by omega) (ev_pos (by omega) (ih (i + 1) (by omega))))
theorem sWorkBy_ev (l : List S42) (hl : l.length ≤ 9223372036854775806) : Ev (fun k => spec_WorkBy.f k l) (WBV l) := by
  unfold spec_WorkBy.f
  refine Ev.bind (sCustomersOk_ev l hl) ?_
  by_cases h : COK l
  · rw [WBV_pos h]
    exact ev_pos (dec_pos h) (Ev.bind (sWaitsOf_ev h) (sWorkBy_l0 h l.length 0 (by omega)))
  · exact ev_neg (by rw [dec_neg h]; simp) (ev_some (WBV_neg h).symm)
def cvCustomer (x : S58) : S42 := ⟨x.f0, x.f1⟩
theorem toCustomerS_l0 (l : List S58) (hl : l.length ≤ 1048576) : ∀ (d i : Nat) (o : List S42), i + d = l.length → o.length = l.length → (∀ j : Nat, j < i → rd_T42 o (j : Int) = cvCustomer (rd_T58 l (j : Int))) →
    Ev (fun k => laws_toCustomerS.l0 k l o (i : Int)) (l.map cvCustomer) := by
  intro d
  induction d with
  | zero =>
    intro i o hi ho hr
    refine ev_succ ?_
    simp only [laws_toCustomerS.l0]
    refine ev_neg (by omega) (ev_some ?_)
    refine sCustomer_ext (by rw [List.length_map]; exact ho) (fun j hj => ?_)
    rw [hr j (by omega), sCustomer_nat, List.getD_eq_getElem?_getD, List.getElem?_map, List.getElem?_eq_getElem (by omega)]
    show cvCustomer (l.getD j _) = cvCustomer _
    rw [List.getD_eq_getElem?_getD, List.getElem?_eq_getElem (by omega)]; rfl
  | succ d ih =>
    intro i o hi ho hr
    refine ev_succ ?_
    simp only [laws_toCustomerS.l0, laws_toCustomer.f, Option.bind_some]
    refine ev_pos (by omega) (ev_pos (by omega) (ev_pos (by omega) ?_))
    rw [wrap_succ (by omega)]
    refine ih (i + 1) _ (by omega) (by rw [List.length_set]; exact ho) ?_
    intro j hj
    rw [show ((i : Int).toNat) = i from rfl, sCustomer_set o i j _ (by omega)]
    by_cases e : j = i
    · rw [if_pos e, e]; rfl
    · rw [if_neg e]; exact hr j (by omega)
theorem toCustomerS_ev (l : List S58) (hl : l.length ≤ 1048576) : Ev (fun k => laws_toCustomerS.f k l) (l.map cvCustomer) := by
  unfold laws_toCustomerS.f
  refine ev_pos (by omega) (ev_pos (by omega) ?_)
  refine toCustomerS_l0 l hl l.length 0 _ (by omega) (by simp) (fun j hj => by omega)
theorem szCustomerS_eq (l : List S58) (hl : l.length ≤ 1048576) : laws_szCustomerS.f l 1048576 = some (1048576 - (l.length : Int)) := by
  unfold laws_szCustomerS.f
  rw [wrap_id (by omega) (by omega), if_neg (by omega)]
theorem szCustomerS_big (l : List S58) (h0 : l.length ≤ 9223372036854775807) (hl : ¬ l.length ≤ 1048576) : laws_szCustomerS.f l 1048576 = some (-1) := by
  unfold laws_szCustomerS.f
  rw [wrap_id (by omega) (by omega), if_pos (by omega)]
theorem eqCustomerS_l0 (a b : List S42) (hl : a.length ≤ 9223372036854775806) (hb : a.length = b.length) : ∀ (d i : Nat), i + d = a.length → (∀ j : Nat, j < i → rd_T42 a (j : Int) = rd_T42 b (j : Int)) →
    Ev (fun k => laws_eqCustomerS.l0 k a b (i : Int)) (dec (a = b)) := by
  intro d
  induction d with
  | zero =>
    intro i hi hr
    refine ev_succ ?_
    simp only [laws_eqCustomerS.l0]
    refine ev_neg (by omega) (ev_some ?_)
    exact (dec_pos (sCustomer_ext hb (fun j hj => hr j (by omega)))).symm
  | succ d ih =>
    intro i hi hr
    refine ev_succ ?_
    simp only [laws_eqCustomerS.l0, laws_eqCustomer.f]
    refine ev_pos (by omega) (ev_pos (by omega) (ev_pos (by omega) ?_))
    by_cases h : (rd_T42 a (i : Int)).f0 = (rd_T42 b (i : Int)).f0
    · by_cases h2 : (rd_T42 a (i : Int)).f1 = (rd_T42 b (i : Int)).f1
      · rw [if_pos h, if_pos h2]
        simp only [Option.bind_some]
        refine ev_pos (by simp) ?_
        rw [wrap_succ (by omega)]
        refine ih (i + 1) (by omega) ?_
        intro j hj
        by_cases e : j = i
        · rw [e]
          cases ha : rd_T42 a (i : Int); cases hb' : rd_T42 b (i : Int)
          rw [ha, hb'] at h h2
          simp only at h h2
          rw [h, h2]
        · exact hr j (by omega)
      · rw [if_pos h, if_neg h2]
        simp only [Option.bind_some]
        refine ev_neg (by simp) (ev_some (dec_neg ?_).symm)
        intro e; exact h2 (by rw [e])
    · rw [if_neg h]
      simp only [Option.bind_some]
      refine ev_neg (by simp) (ev_some (dec_neg ?_).symm)
      intro e; exact h (by rw [e])
theorem eqCustomerS_ev (a b : List S42) (hl : a.length ≤ 9223372036854775806) : Ev (fun k => laws_eqCustomerS.f k a b) (dec (a = b)) := by
  unfold laws_eqCustomerS.f
  by_cases h : a.length = b.length
  · refine ev_pos (by omega) ?_
    exact eqCustomerS_l0 a b hl h a.length 0 (by omega) (fun j hj => by omega)
  · refine ev_neg (by omega) (ev_some (dec_neg ?_).symm)
    intro e; exact h (by rw [e])
theorem FnExactWorkBy (l0 : List S58) (h0 : l0.length ≤ 9223372036854775807) : ∃ k, laws_FnExactWorkBy.f k l0 = some true := by
  refine Ev.rounds ?_
  unfold laws_FnExactWorkBy.f
  by_cases h : l0.length ≤ 1048576
  · have e : (l0.map cvCustomer).length ≤ 1048576 := by rw [List.length_map]; omega
    rw [szCustomerS_eq l0 h]
    refine Ev.bind (Ev.now _) (ev_neg (by omega) (Ev.bind (toCustomerS_ev l0 h) (Ev.bind (sWorkBy_ev _ (by omega)) (Ev.bind (toCustomerS_ev l0 h) (Ev.bind (iWorkBy_ev _ (by omega)) ?_)))))
    exact ev_pos rfl (Ev.bind (toCustomerS_ev l0 h) (Ev.bind (eqCustomerS_ev _ _ (by omega)) (ev_pos (dec_pos rfl) (Ev.now _))))
  · rw [szCustomerS_big l0 h0 h]
    exact Ev.bind (Ev.now _) (ev_pos (by omega) (Ev.now _))
end Go.Proofs.Ytlainmahnfnhkaa.Pure
