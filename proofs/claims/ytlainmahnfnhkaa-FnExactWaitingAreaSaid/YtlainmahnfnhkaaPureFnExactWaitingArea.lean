/- The law FnExactWaitingArea holds for every input; nothing is assumed. -/
import Derived.Test.YtlainmahnfnhkaaPFnExactWaitingAreax7
namespace Go.Proofs.Ytlainmahnfnhkaa.Pure
open Go.RowKit Go.Proofs.Ytlainmahnfnhkaa.PFnExactWaitingArea Go.Proofs.YtlainmahnfnhkaaW.PrintWords Go.Proofs.YtlainmahnfnhkaaW.PrintLast Go.Proofs.YtlainmahnfnhkaaW.PrintMore
set_option linter.unusedVariables false
set_option linter.unusedSimpArgs false
theorem ev_succ {α : Type} {g : Nat → Option α} {r : α} (h : Ev (fun k => g (k + 1)) r) : Ev g r := Ev.step (fun _ => rfl) h
theorem ev_pos {α : Type} {c : Prop} [Decidable c] {f g : Nat → Option α} {r : α} (h : c) (k : Ev f r) : Ev (fun n => if c then f n else g n) r := Ev.congr (fun _ => if_pos h) k
theorem ev_neg {α : Type} {c : Prop} [Decidable c] {f g : Nat → Option α} {r : α} (h : ¬c) (k : Ev g r) : Ev (fun n => if c then f n else g n) r := Ev.congr (fun _ => if_neg h) k
theorem ev_some {α : Type} {x r : α} (h : x = r) : Ev (fun _ => some x) r := h ▸ Ev.now x
theorem ev_to {α : Type} {g : Nat → Option α} {a r : α} (h : Ev g a) (e : a = r) : Ev g r := e ▸ h
/-- Whether P. -/
noncomputable def dec (P : Prop) : Bool := @decide P (Classical.propDecidable P)
theorem dec_iff {P : Prop} : dec P = true ↔ P := @decide_eq_true_iff P (Classical.propDecidable P)
theorem dec_pos {P : Prop} (h : P) : dec P = true := dec_iff.2 h
theorem dec_neg {P : Prop} (h : ¬P) : dec P = false := by
  cases e : dec P
  · rfl
  · exact absurd (dec_iff.1 e) h
theorem dec_congr {P Q : Prop} (h : P ↔ Q) : dec P = dec Q := by rw [propext h]
theorem dec_of {P : Prop} [Decidable P] : decide P = dec P := by
  by_cases h : P
  · rw [dec_pos h, decide_eq_true h]
  · rw [dec_neg h, decide_eq_false h]
theorem dec_bool {b : Bool} : b = dec (b = true) := by
  cases b
  · exact (dec_neg (by simp)).symm
  · exact (dec_pos rfl).symm
/-- From i on: at i, and from i + 1 on. -/
theorem from_step {i n : Nat} {Q : Nat → Prop} (h : i < n) : (∀ j, i ≤ j → j < n → Q j) ↔ Q i ∧ ∀ j, i + 1 ≤ j → j < n → Q j := by
  constructor
  · exact fun a => ⟨a i (Nat.le_refl _) h, fun j h1 h2 => a j (by omega) h2⟩
  · intro a j h1 h2
    by_cases e : j = i
    · exact e ▸ a.1
    · exact a.2 j (by omega) h2
theorem from_end {n : Nat} {Q : Nat → Prop} : ∀ j, n ≤ j → j < n → Q j := fun j h1 h2 => by omega
theorem wrap_id {x : Int} (h0 : -9223372036854775808 ≤ x) (h1 : x ≤ 9223372036854775807) : wrap64 x = x := by unfold wrap64; omega
theorem wrap_succ {i : Nat} (h : i ≤ 9223372036854775806) : wrap64 ((i : Int) + 1) = ((i + 1 : Nat) : Int) := by unfold wrap64; omega
theorem wrap_pred {i : Nat} (h : i ≤ 9223372036854775806) : wrap64 ((i : Int) - 1) = (i : Int) - 1 := by unfold wrap64; omega
/-- The bounds of a number of the kind int. -/
def I64 (x : Int) : Prop := -9223372036854775808 ≤ x ∧ x ≤ 9223372036854775807
theorem i64_wf {x : Int} (h : (Lit.int .i64 x).wf = true) : I64 x := by
  have h' : (decide (IntKind.i64.min ≤ x) && decide (x ≤ IntKind.i64.max)) = true := h
  have a : IntKind.i64.min = -9223372036854775808 := by decide
  have b : IntKind.i64.max = 9223372036854775807 := by decide
  rw [a, b] at h'
  simpa [I64] using h'
theorem rd_nat (l : List Int) (i : Nat) : rd l (i : Int) = l.getD i 0 := rfl
theorem rd_set (l : List Int) (i j : Nat) (v : Int) (h : i < l.length) : rd (l.set i v) (j : Int) = if j = i then v else rd l (j : Int) := by
  rw [rd_nat, rd_nat, List.getD_eq_getElem?_getD, List.getElem?_set]
  by_cases e : i = j
  · subst e; rw [if_pos rfl, if_pos h, if_pos rfl]; rfl
  · rw [if_neg e, if_neg (fun x => e x.symm), ← List.getD_eq_getElem?_getD]
theorem rd_app (l : List Int) (v : Int) (j : Nat) : rd (l ++ [v]) (j : Int) = if j < l.length then rd l (j : Int) else if j = l.length then v else 0 := by
  rw [rd_nat, rd_nat, List.getD_eq_getElem?_getD, List.getD_eq_getElem?_getD, List.getElem?_append]
  by_cases h : j < l.length
  · rw [if_pos h, if_pos h]
  · rw [if_neg h, if_neg h]
    by_cases e : j = l.length
    · subst e; rw [if_pos rfl]; simp
    · rw [if_neg e, List.getElem?_eq_none (by simp; omega)]; rfl
theorem rd_take (l : List Int) (n j : Nat) (h : j < n) : rd (l.take n) (j : Int) = rd l (j : Int) := by
  rw [rd_nat, rd_nat, List.getD_eq_getElem?_getD, List.getElem?_take, if_pos h, ← List.getD_eq_getElem?_getD]
theorem rd_ext {a b : List Int} (hl : a.length = b.length) (h : ∀ j : Nat, j < a.length → rd a (j : Int) = rd b (j : Int)) : a = b := by
  refine List.ext_getElem hl fun j h1 h2 => ?_
  have := h j h1
  rw [rd_nat, rd_nat, List.getD_eq_getElem?_getD, List.getD_eq_getElem?_getD, List.getElem?_eq_getElem h1, List.getElem?_eq_getElem h2] at this
  exact this
theorem rd_out (l : List Int) (j : Nat) (h : l.length ≤ j) : rd l (j : Int) = 0 := by
  rw [rd_nat, List.getD_eq_getElem?_getD, List.getElem?_eq_none h]; rfl
theorem rd_mem {l : List Int} {j : Nat} (h : j < l.length) : rd l (j : Int) ∈ l := by
  rw [rd_nat, List.getD_eq_getElem?_getD, List.getElem?_eq_getElem h]; exact List.getElem_mem h
theorem rd_repl (n j : Nat) : rd (List.replicate n (0 : Int)) (j : Int) = 0 := by
  rw [rd_nat, List.getD_eq_getElem?_getD, List.getElem?_replicate]; split <;> rfl
/-- How often i is served in the first t units. -/
def cnt (o : List Int) (i : Int) : Nat → Int
  | 0 => 0
  | t + 1 => cnt o i t + if rd o (t : Int) = i then 1 else 0
/-- The end of the last unit of i in the first t units. -/
def lst (o : List Int) (i : Int) : Nat → Int
  | 0 => 0
  | t + 1 => if rd o (t : Int) = i then (t : Int) + 1 else lst o i t
theorem cnt_mono (o : List Int) (i : Int) (s : Nat) : ∀ t : Nat, s ≤ t → cnt o i s ≤ cnt o i t
  | 0, h => by obtain rfl : s = 0 := by omega
               exact Int.le_refl _
  | t + 1, h => by
    by_cases e : s = t + 1
    · subst e; exact Int.le_refl _
    · have := cnt_mono o i s t (by omega)
      simp only [cnt]; split <;> omega
theorem cnt_in (o : List Int) (i : Int) (t : Nat) : 0 ≤ cnt o i t ∧ cnt o i t ≤ (t : Int) := by
  induction t with
  | zero => simp [cnt]
  | succ t ih => simp only [cnt]; split <;> omega
theorem lst_in (o : List Int) (i : Int) (t : Nat) : 0 ≤ lst o i t ∧ lst o i t ≤ (t : Int) := by
  induction t with
  | zero => simp [lst]
  | succ t ih => simp only [lst]; split <;> omega
/-- It ends behind s exactly if it is served behind s. -/
theorem lst_gt (o : List Int) (i : Int) (s : Nat) : ∀ t : Nat, s ≤ t → (lst o i t > (s : Int) ↔ cnt o i s < cnt o i t)
  | 0, h => by
    obtain rfl : s = 0 := by omega
    simp [lst]
  | t + 1, h => by
    by_cases e : s = t + 1
    · subst e
      have := lst_in o i (t + 1)
      constructor
      · intro h; omega
      · intro h; omega
    · have ih := lst_gt o i s t (by omega)
      have m := cnt_mono o i s t (by omega)
      simp only [lst, cnt]
      by_cases c : rd o (t : Int) = i
      · rw [if_pos c, if_pos c]; omega
      · rw [if_neg c, if_neg c]; omega
/-- Where the last unit ends. -/
theorem lst_of {o : List Int} {i : Int} {e t : Nat} (h0 : cnt o i e < cnt o i (e + 1)) (h1 : cnt o i t = cnt o i (e + 1)) (ht : e + 1 ≤ t) : lst o i t = (e : Int) + 1 := by
  have a := (lst_gt o i e t (by omega)).2 (by omega)
  have b := lst_gt o i (e + 1) t ht
  have c : ¬ (lst o i t > ((e + 1 : Nat) : Int)) := fun h => by have := b.1 h; omega
  omega
theorem sCustomer_nat (l : List S42) (i : Nat) : rd_T42 l (i : Int) = l.getD i z42 := rfl
theorem sCustomer_get {l : List S42} {i : Nat} (h : i < l.length) : rd_T42 l (i : Int) = l[i] := by
  rw [sCustomer_nat, List.getD_eq_getElem?_getD, List.getElem?_eq_getElem h]; rfl
theorem sCustomer_set (l : List S42) (i j : Nat) (v : S42) (h : i < l.length) : rd_T42 (l.set i v) (j : Int) = if j = i then v else rd_T42 l (j : Int) := by
  rw [sCustomer_nat, sCustomer_nat, List.getD_eq_getElem?_getD, List.getElem?_set]
  by_cases e : i = j
  · subst e; rw [if_pos rfl, if_pos h, if_pos rfl]; rfl
  · rw [if_neg e, if_neg (fun x => e x.symm), ← List.getD_eq_getElem?_getD]
theorem sCustomer_app (l : List S42) (v : S42) (j : Nat) : rd_T42 (l ++ [v]) (j : Int) = if j < l.length then rd_T42 l (j : Int) else if j = l.length then v else z42 := by
  rw [sCustomer_nat, sCustomer_nat, List.getD_eq_getElem?_getD, List.getD_eq_getElem?_getD, List.getElem?_append]
  by_cases h : j < l.length
  · rw [if_pos h, if_pos h]
  · rw [if_neg h, if_neg h]
    by_cases e : j = l.length
    · subst e; rw [if_pos rfl]; simp
    · rw [if_neg e, List.getElem?_eq_none (by simp; omega)]; rfl
theorem sCustomer_take (l : List S42) (n j : Nat) (h : j < n) : rd_T42 (l.take n) (j : Int) = rd_T42 l (j : Int) := by
  rw [sCustomer_nat, sCustomer_nat, List.getD_eq_getElem?_getD, List.getElem?_take, if_pos h, ← List.getD_eq_getElem?_getD]
theorem sCustomer_drop (l : List S42) (n j : Nat) : rd_T42 (l.drop n) (j : Int) = rd_T42 l ((n + j : Nat) : Int) := by
  rw [sCustomer_nat, sCustomer_nat, List.getD_eq_getElem?_getD, List.getElem?_drop, ← List.getD_eq_getElem?_getD]
theorem sCustomer_ext {a b : List S42} (hl : a.length = b.length) (h : ∀ j : Nat, j < a.length → rd_T42 a (j : Int) = rd_T42 b (j : Int)) : a = b := by
  refine List.ext_getElem hl fun j h1 h2 => ?_
  have := h j h1
  rw [sCustomer_get h1, sCustomer_get h2] at this
  exact this
def CIn (l : List S42) (j : Nat) : Prop := (0 ≤ (rd_T42 l (j : Int)).f0 ∧ (rd_T42 l (j : Int)).f0 ≤ 60) ∧ (1 ≤ (rd_T42 l (j : Int)).f1 ∧ (rd_T42 l (j : Int)).f1 ≤ 9) ∧ (0 < j → (rd_T42 l ((j : Int) - 1)).f0 ≤ (rd_T42 l (j : Int)).f0)
/-- Customers. -/
def COK (l : List S42) : Prop := (∀ j : Nat, 0 ≤ j → j < l.length → CIn l j) ∧ (l.length : Int) ≤ 8
def cc (l : List S42) (i : Nat) : Int := (rd_T42 l (i : Int)).f0
def pp (l : List S42) (i : Nat) : Int := (rd_T42 l (i : Int)).f1
theorem cc_in {l : List S42} (h : COK l) {i : Nat} (hi : i < l.length) : 0 ≤ cc l i ∧ cc l i ≤ 60 := (h.1 i (Nat.zero_le _) hi).1
theorem pp_in {l : List S42} (h : COK l) {i : Nat} (hi : i < l.length) : 1 ≤ pp l i ∧ pp l i ≤ 9 := (h.1 i (Nat.zero_le _) hi).2.1
theorem cc_step {l : List S42} (h : COK l) {i : Nat} (hi : i + 1 < l.length) : cc l i ≤ cc l (i + 1) := by
  have := (h.1 (i + 1) (Nat.zero_le _) hi).2.2 (by omega)
  rw [show (((i + 1 : Nat) : Int) - 1) = (i : Int) by omega] at this
  exact this
theorem cc_mono {l : List S42} (h : COK l) (j : Nat) : ∀ i : Nat, i ≤ j → j < l.length → cc l i ≤ cc l j := by
  induction j with
  | zero => intro i hi _; obtain rfl : i = 0 := by omega
            exact Int.le_refl _
  | succ j ih =>
    intro i hi hj
    by_cases e : i = j + 1
    · subst e; exact Int.le_refl _
    · have := ih i (by omega) (by omega)
      have := cc_step h hj
      omega
theorem clen {l : List S42} (h : COK l) : l.length ≤ 8 := by have := h.2; omega
/-- An order. -/
def OOK (l : List S42) (o : List Int) : Prop :=
  COK l ∧ (o.length : Int) ≤ 200 ∧ (∀ t : Nat, t < o.length → (-1 ≤ rd o (t : Int) ∧ rd o (t : Int) < (l.length : Int)) ∧ (0 ≤ rd o (t : Int) → cc l (rd o (t : Int)).toNat ≤ (t : Int))) ∧
    ∀ i : Nat, i < l.length → cnt o (i : Int) o.length = pp l i
/-- Each is there as long as needed, at least. -/
theorem lst_come {l : List S42} {o : List Int} (h : OOK l o) (i : Nat) : ∀ t : Nat, t ≤ o.length → (cnt o (i : Int) t = 0 ∧ lst o (i : Int) t = 0) ∨ (cc l i + cnt o (i : Int) t ≤ lst o (i : Int) t)
  | 0, _ => .inl ⟨rfl, rfl⟩
  | t + 1, ht => by
    have ih := lst_come h i t (by omega)
    have b := lst_in o (i : Int) t
    simp only [cnt, lst]
    by_cases c : rd o (t : Int) = (i : Int)
    · have a := (h.2.2.1 t (by omega)).2 (by omega)
      rw [c, Int.toNat_natCast] at a
      rw [if_pos c, if_pos c]
      omega
    · rw [if_neg c, if_neg c]
      omega
theorem lst_need {l : List S42} {o : List Int} (h : OOK l o) {i : Nat} (hi : i < l.length) : cc l i + pp l i ≤ lst o (i : Int) o.length ∧ lst o (i : Int) o.length ≤ (o.length : Int) := by
  have a := lst_come h i o.length (Nat.le_refl _)
  have b := h.2.2.2 i hi
  have c := pp_in h.1 hi
  have d := lst_in o (i : Int) o.length
  omega
/-- A row out of a function. -/
def tab (n : Nat) (f : Nat → Int) : List Int := (List.range n).map f
theorem tab_len (n : Nat) (f : Nat → Int) : (tab n f).length = n := by simp [tab]
theorem rd_tab (n : Nat) (f : Nat → Int) (i : Nat) (h : i < n) : rd (tab n f) (i : Int) = f i := by
  rw [rd_nat, List.getD_eq_getElem?_getD]
  unfold tab
  rw [List.getElem?_map, List.getElem?_range h]; rfl
theorem eq_tab {l : List Int} {n : Nat} {f : Nat → Int} (hl : l.length = n) (h : ∀ i : Nat, i < n → rd l (i : Int) = f i) : l = tab n f :=
  rd_ext (by rw [tab_len, hl]) (fun j hj => by rw [h j (by omega), rd_tab n f j (by omega)])
theorem tab_congr {n : Nat} {f g : Nat → Int} (h : ∀ i, i < n → f i = g i) : tab n f = tab n g :=
  eq_tab (tab_len n f) (fun i hi => by rw [rd_tab n f i hi, h i hi])
/-- What EndsOf answers. -/
noncomputable def ENDS (l : List S42) (o : List Int) : List Int := @ite _ (OOK l o) (Classical.propDecidable _) (tab l.length (fun i => lst o (i : Int) o.length)) []
theorem ENDS_pos {l : List S42} {o : List Int} (h : OOK l o) : ENDS l o = tab l.length (fun i => lst o (i : Int) o.length) := by unfold ENDS; exact if_pos h
theorem ENDS_neg {l : List S42} {o : List Int} (h : ¬OOK l o) : ENDS l o = [] := by unfold ENDS; exact if_neg h
/-- f 0 to f (n - 1), added. -/
def sg (f : Nat → Int) : Nat → Int
  | 0 => 0
  | n + 1 => sg f n + f n
theorem sg_congr {f g : Nat → Int} : ∀ n : Nat, (∀ i, i < n → f i = g i) → sg f n = sg g n
  | 0, _ => rfl
  | n + 1, h => by
    simp only [sg]
    rw [sg_congr n (fun i hi => h i (by omega)), h n (by omega)]
theorem sg_le {f g : Nat → Int} : ∀ n : Nat, (∀ i, i < n → f i ≤ g i) → sg f n ≤ sg g n
  | 0, _ => Int.le_refl _
  | n + 1, h => by
    have := sg_le n (fun i hi => h i (by omega))
    have := h n (by omega)
    simp only [sg]; omega
theorem sg_in {f : Nat → Int} {A B : Int} : ∀ n : Nat, (∀ i, i < n → A ≤ f i ∧ f i ≤ B) → A * (n : Int) ≤ sg f n ∧ sg f n ≤ B * (n : Int)
  | 0, _ => by simp [sg]
  | n + 1, h => by
    have a := sg_in n (fun i hi => h i (by omega))
    have b := h n (by omega)
    have e1 : A * ((n + 1 : Nat) : Int) = A * (n : Int) + A := by rw [Int.natCast_add, Int.mul_add]; simp
    have e2 : B * ((n + 1 : Nat) : Int) = B * (n : Int) + B := by rw [Int.natCast_add, Int.mul_add]; simp
    simp only [sg]
    rw [e1, e2]; omega
theorem sg_add (f g : Nat → Int) : ∀ n : Nat, sg (fun i => f i + g i) n = sg f n + sg g n
  | 0 => rfl
  | n + 1 => by simp only [sg]; rw [sg_add f g n]; omega
theorem sg_sub (f g : Nat → Int) : ∀ n : Nat, sg (fun i => f i - g i) n = sg f n - sg g n
  | 0 => rfl
  | n + 1 => by simp only [sg]; rw [sg_sub f g n]; omega
theorem sg_zero : ∀ n : Nat, sg (fun _ => 0) n = 0
  | 0 => rfl
  | n + 1 => by simp only [sg]; rw [sg_zero n]; rfl
theorem sg_swap (f : Nat → Nat → Int) (n : Nat) : ∀ m : Nat, sg (fun t => sg (fun i => f t i) n) m = sg (fun i => sg (fun t => f t i) m) n
  | 0 => by simp only [sg]; exact (sg_zero n).symm
  | m + 1 => by
    simp only [sg]
    rw [sg_swap f n m, ← sg_add]
theorem sg_split (f : Nat → Int) (n : Nat) : ∀ m : Nat, sg f (n + m) = sg f n + sg (fun i => f (n + i)) m
  | 0 => by simp [sg]
  | m + 1 => by
    show sg f (n + m) + f (n + m) = _
    simp only [sg]
    rw [sg_split f n m]; omega
theorem sg_mem {f : Nat → Int} : ∀ (n i : Nat), i < n → (∀ j, j < n → 0 ≤ f j) → f i ≤ sg f n
  | n + 1, i, hi, h => by
    simp only [sg]
    by_cases e : i = n
    · subst e
      have := (sg_in (A := 0) (B := sg f i) i (fun j hj => ⟨h j (by omega), sg_mem i j hj (fun k hk => h k (by omega))⟩)).1
      omega
    · have := sg_mem n i (by omega) (fun k hk => h k (by omega))
      have := h n (by omega)
      omega
theorem sg_nonneg {f : Nat → Int} : ∀ n : Nat, (∀ j, j < n → 0 ≤ f j) → 0 ≤ sg f n
  | 0, _ => Int.le_refl _
  | n + 1, h => by
    have := sg_nonneg n (fun j hj => h j (by omega))
    have := h n (by omega)
    simp only [sg]; omega
/-- One unit at k. -/
theorem sg_unit (k : Nat) (x : Int) : ∀ n : Nat, sg (fun i => if i = k then x else 0) n = if k < n then x else 0
  | 0 => rfl
  | n + 1 => by
    simp only [sg]
    rw [sg_unit k x n]
    by_cases e : n = k
    · rw [if_neg (by omega), if_pos e, if_pos (by omega)]; omega
    · rw [if_neg e]
      by_cases c : k < n
      · rw [if_pos c, if_pos (by omega)]; omega
      · rw [if_neg c, if_neg (by omega)]; rfl
/-- Is customer i there in the unit t? -/
def isThere (l : List S42) (o : List Int) (t : Int) (i : Nat) : Int := if cc l i ≤ t then if lst o (i : Int) o.length > t then 1 else 0 else 0
theorem isThere_in (l : List S42) (o : List Int) (t : Int) (i : Nat) : 0 ≤ isThere l o t i ∧ isThere l o t i ≤ 1 := by unfold isThere; split <;> (try split) <;> omega
/-- What ThereAt answers. -/
noncomputable def THERE (l : List S42) (o : List Int) (t : Int) : Int := @ite _ (OOK l o ∧ 0 ≤ t ∧ t < 200) (Classical.propDecidable _) (sg (isThere l o t) l.length) (-1)
theorem THERE_pos {l : List S42} {o : List Int} {t : Int} (h : OOK l o) (h0 : 0 ≤ t) (h1 : t < 200) : THERE l o t = sg (isThere l o t) l.length := by unfold THERE; exact if_pos ⟨h, h0, h1⟩
theorem THERE_neg {l : List S42} {o : List Int} {t : Int} (h : ¬(OOK l o ∧ 0 ≤ t ∧ t < 200)) : THERE l o t = -1 := by unfold THERE; exact if_neg h
theorem there_in {l : List S42} {o : List Int} {t : Int} (i : Nat) : 0 ≤ sg (isThere l o t) i ∧ sg (isThere l o t) i ≤ (i : Int) := by
  have := sg_in (f := isThere l o t) (A := 0) (B := 1) i (fun j _ => isThere_in l o t j)
  omega
/-- What TimesOf answers. -/
noncomputable def TIMES (l : List S42) (o : List Int) : List Int := @ite _ (OOK l o) (Classical.propDecidable _) (tab l.length (fun i => lst o (i : Int) o.length - cc l i)) []
theorem TIMES_pos {l : List S42} {o : List Int} (h : OOK l o) : TIMES l o = tab l.length (fun i => lst o (i : Int) o.length - cc l i) := by unfold TIMES; exact if_pos h
theorem TIMES_neg {l : List S42} {o : List Int} (h : ¬OOK l o) : TIMES l o = [] := by unfold TIMES; exact if_neg h
theorem TIMES_len (l : List S42) (o : List Int) : (TIMES l o).length ≤ 8 := by
  by_cases h : OOK l o
  · rw [TIMES_pos h, tab_len]; exact clen h.1
  · rw [TIMES_neg h]; simp
/-- What SumOf answers. -/
noncomputable def SUMV (l : List S42) (o : List Int) : Int := @ite _ (OOK l o) (Classical.propDecidable _) (sg (fun i => lst o (i : Int) o.length - cc l i) l.length) (-1)
theorem SUMV_pos {l : List S42} {o : List Int} (h : OOK l o) : SUMV l o = sg (fun i => lst o (i : Int) o.length - cc l i) l.length := by unfold SUMV; exact if_pos h
theorem SUMV_neg {l : List S42} {o : List Int} (h : ¬OOK l o) : SUMV l o = -1 := by unfold SUMV; exact if_neg h
theorem time_in {l : List S42} {o : List Int} (h : OOK l o) {i : Nat} (hi : i < l.length) : pp l i ≤ lst o (i : Int) o.length - cc l i ∧ lst o (i : Int) o.length - cc l i ≤ 200 := by
  have a := lst_need h hi
  have b := cc_in h.1 hi
  have c := h.2.1
  omega
theorem SUMV_in {l : List S42} {o : List Int} (h : OOK l o) : sg (pp l) l.length ≤ SUMV l o ∧ 0 ≤ SUMV l o ∧ SUMV l o ≤ 1600 := by
  rw [SUMV_pos h]
  have n := clen h.1
  have a := sg_le (f := pp l) (g := fun i => lst o (i : Int) o.length - cc l i) l.length (fun i hi => (time_in h hi).1)
  have b := sg_in (f := fun i => lst o (i : Int) o.length - cc l i) (A := 0) (B := 200) l.length (fun i hi => by have := time_in h hi; have := pp_in h.1 hi; show 0 ≤ lst o (i : Int) o.length - cc l i ∧ lst o (i : Int) o.length - cc l i ≤ 200; omega)
  omega
theorem sum_TIMES {l : List S42} {o : List Int} (h : OOK l o) : sg (fun i => rd (TIMES l o) (i : Int)) (TIMES l o).length = SUMV l o := by
  rw [SUMV_pos h, TIMES_pos h, tab_len]
  exact sg_congr _ (fun i hi => rd_tab _ _ _ hi)
theorem TIMES_in {l : List S42} {o : List Int} (h : OOK l o) (i : Nat) (hi : i < (TIMES l o).length) : 0 ≤ rd (TIMES l o) (i : Int) ∧ rd (TIMES l o) (i : Int) ≤ 200 := by
  rw [TIMES_pos h] at hi ⊢
  rw [tab_len] at hi
  rw [rd_tab _ _ _ hi]
  have := time_in h hi
  have := pp_in h.1 hi
  omega
/-- How many are there, added over the first m units. -/
def area (l : List S42) (o : List Int) (m : Nat) : Int := sg (fun t => sg (isThere l o (t : Int)) l.length) m
theorem units_in (a e : Int) (h0 : 0 ≤ a) (h1 : a ≤ e) : ∀ T : Nat, sg (fun t => if a ≤ (t : Int) then if e > (t : Int) then 1 else 0 else 0) T = if (T : Int) ≤ a then 0 else if (T : Int) ≤ e then (T : Int) - a else e - a
  | 0 => by simp only [sg]; rw [if_pos (by omega)]
  | T + 1 => by
    simp only [sg]
    rw [units_in a e h0 h1 T]
    by_cases c1 : a ≤ (T : Int) <;> by_cases c2 : e > (T : Int) <;> simp only [c1, c2, if_true, if_false] <;> split <;> (try split) <;> (try split) <;> (try split) <;> omega
theorem area_all {l : List S42} {o : List Int} (h : OOK l o) (m : Nat) (hm : o.length ≤ m) : area l o m = SUMV l o := by
  rw [SUMV_pos h]
  unfold area
  rw [sg_swap]
  refine sg_congr _ (fun i hi => ?_)
  have a := lst_need h hi
  have b := cc_in h.1 hi
  have c := pp_in h.1 hi
  have u := units_in (cc l i) (lst o (i : Int) o.length) b.1 (by omega) m
  rw [if_neg (by omega)] at u
  have e : sg (fun t => isThere l o (t : Int) i) m = sg (fun t => if cc l i ≤ (t : Int) then if lst o (i : Int) o.length > (t : Int) then 1 else 0 else 0) m := rfl
  rw [e, u]
  split <;> omega
theorem area_in {l : List S42} {o : List Int} (h : OOK l o) (m : Nat) : 0 ≤ area l o m ∧ area l o m ≤ 8 * (m : Int) := by
  have n := clen h.1
  have := sg_in (f := fun t : Nat => sg (isThere l o (t : Int)) l.length) (A := 0) (B := 8) m (fun t _ => by have := there_in (l := l) (o := o) (t := (t : Int)) l.length; show 0 ≤ sg (isThere l o (t : Int)) l.length ∧ sg (isThere l o (t : Int)) l.length ≤ 8; omega)
  unfold area
  omega
/-- What WaitingArea answers. -/
noncomputable def WAV (l : List S42) (o : List Int) : Int := @ite _ (OOK l o) (Classical.propDecidable _) (SUMV l o - sg (pp l) l.length) (-1)
theorem WAV_pos {l : List S42} {o : List Int} (h : OOK l o) : WAV l o = SUMV l o - sg (pp l) l.length := by unfold WAV; exact if_pos h
theorem WAV_neg {l : List S42} {o : List Int} (h : ¬OOK l o) : WAV l o = -1 := by unfold WAV; exact if_neg h
/-- Is anybody served in the unit t? -/
def isServed (o : List Int) (t : Nat) : Int := if rd o (t : Int) ≥ 0 then 1 else 0
theorem served_all {l : List S42} {o : List Int} (h : OOK l o) : sg (isServed o) o.length = sg (pp l) l.length := by
  have e : ∀ t : Nat, t ≤ o.length → sg (isServed o) t = sg (fun i => cnt o (i : Int) t) l.length := by
    intro t
    induction t with
    | zero => intro _; simp only [cnt]; exact (sg_zero _).symm
    | succ t ih =>
      intro ht
      have w := (h.2.2.1 t (by omega)).1
      simp only [sg, cnt]
      rw [ih (by omega), sg_add]
      congr 1
      unfold isServed
      by_cases c : rd o (t : Int) ≥ 0
      · obtain ⟨m, hm⟩ := Int.eq_ofNat_of_zero_le c
        rw [if_pos c]
        have u := sg_unit m 1 l.length
        rw [if_pos (by omega)] at u
        refine u.symm.trans (sg_congr _ (fun i hi => ?_))
        rw [hm]
        by_cases e : i = m
        · rw [if_pos e, if_pos (by rw [e])]
        · rw [if_neg e, if_neg (by omega)]
      · rw [if_neg c]
        refine ((sg_congr _ (fun i hi => ?_)).trans (sg_zero l.length)).symm
        rw [if_neg (by omega)]
  rw [e o.length (Nat.le_refl _)]
  exact sg_congr _ (fun i hi => h.2.2.2 i hi)
theorem leftOf_l0 (l : List S42) (hl : l.length ≤ 1048576) : ∀ (d : Nat) (o : List Int), o.length + d = l.length → (∀ j : Nat, j < o.length → rd o (j : Int) = pp l j) →
    Ev (fun k => impl_leftOf.l0 k o l (l.length : Int) (o.length : Int)) (tab l.length (pp l)) := by
  intro d
  induction d with
  | zero =>
    intro o ho hr
    refine ev_succ ?_
    simp only [impl_leftOf.l0]
    exact ev_neg (by omega) (ev_some (eq_tab (by omega) (fun i hi => hr i (by omega))))
  | succ d ih =>
    intro o ho hr
    have := ih (o ++ [(rd_T42 l (o.length : Int)).f1]) (by simp; omega) (fun j hj => by
      rw [rd_app]
      by_cases e : j < o.length
      · rw [if_pos e]; exact hr j e
      · have ej : j = o.length := by simp at hj; omega
        rw [if_neg e, if_pos ej, ej]; rfl)
    rw [List.length_append] at this
    refine ev_succ ?_
    simp only [impl_leftOf.l0]
    rw [wrap_succ (i := o.length) (by omega)]
    exact ev_pos (by omega) (ev_pos (by omega) (ev_pos (by omega) (ev_pos (by omega) this)))
theorem leftOf_ev (l : List S42) (hl : l.length ≤ 1048576) : Ev (fun k => impl_leftOf.f k l) (tab l.length (pp l)) :=
  leftOf_l0 l hl l.length [] (by simp) (fun j hj => by simp at hj)
theorem iCustomersOk_l0 (l : List S42) (hl : l.length ≤ 9223372036854775806) : ∀ d i : Nat, i + d = l.length →
    Ev (fun k => impl_CustomersOk.l0 k l l (l.length : Int) (i : Int)) (dec ((∀ j : Nat, i ≤ j → j < l.length → CIn l j) ∧ (l.length : Int) ≤ 8)) := by
  intro d
  induction d with
  | zero =>
    intro i hi
    refine ev_succ ?_
    simp only [impl_CustomersOk.l0]
    refine ev_neg (by omega) (ev_some ?_)
    obtain rfl : i = l.length := by omega
    rw [dec_of]
    exact dec_congr ⟨fun h => ⟨from_end, h⟩, fun h => h.2⟩
  | succ d ih =>
    intro i hi
    refine ev_succ ?_
    simp only [impl_CustomersOk.l0]
    have hs := from_step (i := i) (n := l.length) (Q := fun j => CIn l j) (by omega)
    refine ev_pos (by omega) (ev_pos (by omega) (ev_pos (by omega) ?_))
    by_cases h1 : (rd_T42 l (i : Int)).f0 < 0
    · exact ev_pos h1 (ev_some (dec_neg (fun x => by have := (hs.1 x.1).1.1.1; omega)).symm)
    refine ev_neg h1 ?_
    by_cases h2 : (rd_T42 l (i : Int)).f0 > 60
    · exact ev_pos h2 (ev_some (dec_neg (fun x => by have := (hs.1 x.1).1.1.2; omega)).symm)
    refine ev_neg h2 ?_
    rw [wrap_succ (by omega), wrap_pred (by omega)]
    have fin : (0 < i → (rd_T42 l ((i : Int) - 1)).f0 ≤ (rd_T42 l (i : Int)).f0) → Ev (fun k => if (rd_T42 l (i : Int)).f1 < 1 then some false else if (rd_T42 l (i : Int)).f1 > 9 then some false else impl_CustomersOk.l0 k l l (l.length : Int) ((i + 1 : Nat) : Int)) (dec ((∀ j : Nat, i ≤ j → j < l.length → CIn l j) ∧ (l.length : Int) ≤ 8)) := by
      intro hp
      by_cases h3 : (rd_T42 l (i : Int)).f1 < 1
      · exact ev_pos h3 (ev_some (dec_neg (fun x => by have := (hs.1 x.1).1.2.1.1; omega)).symm)
      refine ev_neg h3 ?_
      by_cases h4 : (rd_T42 l (i : Int)).f1 > 9
      · exact ev_pos h4 (ev_some (dec_neg (fun x => by have := (hs.1 x.1).1.2.1.2; omega)).symm)
      refine ev_neg h4 (ev_to (ih (i + 1) (by omega)) (dec_congr ?_))
      rw [hs]
      exact ⟨fun x => ⟨⟨⟨⟨by omega, by omega⟩, ⟨by omega, by omega⟩, hp⟩, x.1⟩, x.2⟩, fun x => ⟨x.1.2, x.2⟩⟩
    by_cases h5 : (i : Int) > 0
    · refine ev_pos h5 (ev_pos (by omega) (ev_pos (by omega) ?_))
      by_cases h6 : (rd_T42 l (i : Int)).f0 < (rd_T42 l ((i : Int) - 1)).f0
      · exact ev_pos h6 (ev_some (dec_neg (fun x => by have := (hs.1 x.1).1.2.2 (by omega); omega)).symm)
      · exact ev_neg h6 (fin (fun _ => by omega))
    · exact ev_neg h5 (fin (fun h => by omega))
theorem iCustomersOk_ev (l : List S42) (hl : l.length ≤ 9223372036854775806) : Ev (fun k => impl_CustomersOk.f k l) (dec (COK l)) := iCustomersOk_l0 l hl l.length 0 (by omega)
theorem iOrderOk_l1 (x : List Int) (hx : x.length ≤ 1048576) : ∀ (d i : Nat), i + d = x.length → Ev (fun k => impl_OrderOk.l1 k x (x.length : Int) (i : Int)) (dec (∀ j : Nat, i ≤ j → j < x.length → rd x (j : Int) = 0)) := by
  intro d
  induction d with
  | zero =>
    intro i hi
    obtain rfl : i = x.length := by omega
    refine ev_succ ?_
    simp only [impl_OrderOk.l1]
    exact ev_neg (by omega) (ev_some (dec_pos from_end).symm)
  | succ d ih =>
    intro i hi
    refine ev_succ ?_
    simp only [impl_OrderOk.l1]
    rw [wrap_succ (i := i) (by omega)]
    refine ev_pos (by omega) (ev_pos (by omega) (ev_pos (by omega) ?_))
    have s := from_step (i := i) (n := x.length) (Q := fun j => rd x (j : Int) = 0) (by omega)
    by_cases c : rd x (i : Int) = 0
    · refine ev_pos c (ev_to (ih (i + 1) (by omega)) (dec_congr ?_))
      rw [s]
      exact ⟨fun h => ⟨c, h⟩, fun h => h.2⟩
    · exact ev_neg c (ev_some (dec_neg (fun h => c (s.1 h).1)).symm)
theorem iOrderOk_l0 {l : List S42} {o : List Int} (h : COK l) (ho : (o.length : Int) ≤ 200) : ∀ (d t : Nat) (x : List Int), t + d = o.length → x.length = l.length → (∀ i : Nat, i < l.length → rd x (i : Int) = pp l i - cnt o (i : Int) t) →
    (∀ s : Nat, s < t → (-1 ≤ rd o (s : Int) ∧ rd o (s : Int) < (l.length : Int)) ∧ (0 ≤ rd o (s : Int) → cc l (rd o (s : Int)).toNat ≤ (s : Int))) →
    Ev (fun k => impl_OrderOk.l0 k l x o (o.length : Int) (t : Int)) (dec (OOK l o)) := by
  have n := clen h
  intro d
  induction d with
  | zero =>
    intro t x ht hx hr hs
    obtain rfl : t = o.length := by omega
    refine ev_succ ?_
    simp only [impl_OrderOk.l0]
    refine ev_neg (by omega) (ev_to (iOrderOk_l1 x (by omega) x.length 0 (by omega)) (dec_congr ?_))
    constructor
    · intro a
      exact ⟨h, ho, hs, fun i hi => by have := a i (Nat.zero_le _) (by omega); rw [hr i hi] at this; omega⟩
    · intro a i _ hi
      have := a.2.2.2 i (by omega)
      rw [hr i (by omega)]; omega
  | succ d ih =>
    intro t x ht hx hr hs
    have no : ¬ ((-1 ≤ rd o (t : Int) ∧ rd o (t : Int) < (l.length : Int)) ∧ (0 ≤ rd o (t : Int) → cc l (rd o (t : Int)).toNat ≤ (t : Int))) → ∀ w, Ev (fun k => impl_OrderOk.j2 k l x w o (o.length : Int) (t : Int) true) (dec (OOK l o)) := by
      intro hn w
      refine ev_succ ?_
      simp only [impl_OrderOk.j2]
      exact ev_pos (by simp) (ev_some (dec_neg (fun a => hn (a.2.2.1 t (by omega)))).symm)
    have nx : ∀ s : Nat, s < t + 1 → ((-1 ≤ rd o (t : Int) ∧ rd o (t : Int) < (l.length : Int)) ∧ (0 ≤ rd o (t : Int) → cc l (rd o (t : Int)).toNat ≤ (t : Int))) → ((-1 ≤ rd o (s : Int) ∧ rd o (s : Int) < (l.length : Int)) ∧ (0 ≤ rd o (s : Int) → cc l (rd o (s : Int)).toNat ≤ (s : Int))) := by
      intro s hst a
      by_cases e : s = t
      · exact e ▸ a
      · exact hs s (by omega)
    refine ev_succ ?_
    simp only [impl_OrderOk.l0]
    refine ev_pos (by omega) (ev_pos (by omega) (ev_pos (by omega) ?_))
    by_cases c1 : rd o (t : Int) < -1
    · exact ev_pos c1 (no (fun a => by omega) _)
    refine ev_neg c1 ?_
    by_cases c2 : rd o (t : Int) ≥ (l.length : Int)
    · exact ev_pos c2 (no (fun a => by omega) _)
    refine ev_neg c2 ?_
    by_cases c3 : rd o (t : Int) ≥ 0
    · refine ev_pos c3 (ev_pos c3 (ev_pos (by omega) ?_))
      obtain ⟨w, hw⟩ := Int.eq_ofNat_of_zero_le c3
      rw [hw] at no nx ⊢
      by_cases c4 : (rd_T42 l (w : Int)).f0 > (t : Int)
      · rw [decide_eq_true c4]
        exact no (fun a => by
          have b : cc l w ≤ (t : Int) := a.2 (by omega)
          have e : cc l w = (rd_T42 l (w : Int)).f0 := rfl
          omega) _
      · rw [decide_eq_false c4]
        have c4' : cc l w ≤ (t : Int) := by show (rd_T42 l (w : Int)).f0 ≤ _; omega
        have rw_ := hr w (by omega)
        have b := pp_in h (i := w) (by omega)
        have q := cnt_in o (w : Int) t
        refine ev_succ ?_
        simp only [impl_OrderOk.j2]
        refine ev_neg (by simp) (ev_pos (by omega) (ev_pos (by omega) (ev_pos (by omega) ?_)))
        rw [wrap_succ (i := t) (by omega), wrap_id (x := rd x (w : Int) - 1) (by omega) (by omega)]
        refine ih (t + 1) _ (by omega) (by rw [List.length_set]; exact hx) (fun i hi => ?_) (fun s hst => nx s hst ⟨⟨by omega, by omega⟩, fun _ => c4'⟩)
        rw [show ((w : Int).toNat) = w from rfl, rd_set _ _ _ _ (by omega)]
        simp only [cnt]
        rw [hw]
        by_cases e : i = w
        · rw [if_pos e, if_pos (by rw [e]), e]; omega
        · rw [if_neg e, if_neg (by omega), hr i hi]; omega
    · refine ev_neg c3 (ev_succ ?_)
      simp only [impl_OrderOk.j2]
      refine ev_neg (by simp) (ev_neg c3 ?_)
      rw [wrap_succ (i := t) (by omega)]
      refine ih (t + 1) _ (by omega) hx (fun i hi => ?_) (fun s hst => nx s hst ⟨⟨by omega, by omega⟩, fun z => by omega⟩)
      simp only [cnt]
      rw [if_neg (by omega), hr i hi]; omega
theorem iOrderOk_ev (l : List S42) (o : List Int) (hl : l.length ≤ 9223372036854775806) : Ev (fun k => impl_OrderOk.f k l o) (dec (OOK l o)) := by
  unfold impl_OrderOk.f
  have no : ∀ b : Bool, b = true → ¬ OOK l o → Ev (fun k => impl_OrderOk.j0 k l o b) (dec (OOK l o)) := by
    intro b hb he
    refine ev_succ ?_
    simp only [impl_OrderOk.j0]
    exact ev_pos hb (ev_some (dec_neg he).symm)
  refine Ev.bind (iCustomersOk_ev l hl) ?_
  by_cases h : COK l
  · refine ev_pos (dec_pos h) ?_
    by_cases h2 : (o.length : Int) > 200
    · exact no _ (decide_eq_true h2) (fun a => by have := a.2.1; omega)
    · have n := clen h
      rw [decide_eq_false h2]
      refine ev_succ ?_
      simp only [impl_OrderOk.j0]
      refine ev_neg (by simp) (Ev.bind (leftOf_ev l (by omega)) ?_)
      exact iOrderOk_l0 h (by omega) o.length 0 _ (by omega) (tab_len _ _) (fun i hi => by rw [rd_tab _ _ _ hi]; simp [cnt]) (fun s hs => by omega)
  · exact ev_neg (by rw [dec_neg h]; simp) (no _ rfl (fun x => h x.1))
theorem iendsOf_l0 {l : List S42} {o : List Int} (h : OOK l o) : ∀ (d t : Nat) (x : List Int), t + d = o.length → x.length = l.length → (∀ i : Nat, i < l.length → rd x (i : Int) = lst o (i : Int) t) →
    Ev (fun k => impl_endsOf.l0 k x o (o.length : Int) (t : Int)) (tab l.length (fun i => lst o (i : Int) o.length)) := by
  have ho := h.2.1
  intro d
  induction d with
  | zero =>
    intro t x ht hx hr
    obtain rfl : t = o.length := by omega
    refine ev_succ ?_
    simp only [impl_endsOf.l0]
    exact ev_neg (by omega) (ev_some (eq_tab hx hr))
  | succ d ih =>
    intro t x ht hx hr
    have w := (h.2.2.1 t (by omega)).1
    refine ev_succ ?_
    simp only [impl_endsOf.l0]
    rw [wrap_succ (i := t) (by omega)]
    refine ev_pos (by omega) (ev_pos (by omega) (ev_pos (by omega) ?_))
    by_cases c : rd o (t : Int) ≥ 0
    · obtain ⟨m, hm⟩ := Int.eq_ofNat_of_zero_le c
      rw [hm] at w ⊢
      refine ev_pos (by omega) (ev_pos (by omega) (ev_pos (by omega) ?_))
      refine ih (t + 1) _ (by omega) (by rw [List.length_set]; exact hx) (fun i hi => ?_)
      rw [show ((m : Int).toNat) = m from rfl, rd_set _ _ _ _ (by omega)]
      simp only [lst]
      rw [hm]
      by_cases e : i = m
      · rw [if_pos e, if_pos (by rw [e])]; omega
      · rw [if_neg e, if_neg (by omega), hr i hi]
    · refine ev_neg c (ih (t + 1) _ (by omega) hx (fun i hi => ?_))
      simp only [lst]
      rw [if_neg (by omega), hr i hi]
theorem iendsOf_ev {l : List S42} {o : List Int} (h : OOK l o) : Ev (fun k => impl_endsOf.f k l o) (tab l.length (fun i => lst o (i : Int) o.length)) := by
  have n := clen h.1
  unfold impl_endsOf.f
  refine ev_pos (by omega) (ev_pos (by omega) ?_)
  exact iendsOf_l0 h o.length 0 _ (by omega) (by simp) (fun i hi => by rw [show ((l.length : Int)).toNat = l.length from rfl, rd_repl]; rfl)
theorem iThereAt_l0 {l : List S42} {o : List Int} (h : OOK l o) (t : Int) : ∀ (d i : Nat), i + d = l.length →
    Ev (fun k => impl_ThereAt.l0 k l t (sg (isThere l o t) i) (tab l.length (fun i => lst o (i : Int) o.length)) ((tab l.length (fun i => lst o (i : Int) o.length)).length : Int) (i : Int)) (sg (isThere l o t) l.length) := by
  have n := clen h.1
  have tl := tab_len l.length (fun i => lst o (i : Int) o.length)
  intro d
  induction d with
  | zero =>
    intro i hi
    obtain rfl : i = l.length := by omega
    refine ev_succ ?_
    simp only [impl_ThereAt.l0]
    exact ev_neg (by omega) (Ev.now _)
  | succ d ih =>
    intro i hi
    have b := there_in (l := l) (o := o) (t := t) i
    have nx := ih (i + 1) (by omega)
    have e1 : isThere l o t i = if cc l i ≤ t then if lst o (i : Int) o.length > t then 1 else 0 else 0 := rfl
    simp only [sg] at nx
    rw [e1] at nx
    refine ev_succ ?_
    simp only [impl_ThereAt.l0]
    rw [wrap_succ (i := i) (by omega), rd_tab _ _ _ (by omega), wrap_id (x := _ + 1) (by omega) (by omega)]
    refine ev_pos (by omega) (ev_pos (by omega) (ev_pos (by omega) (ev_pos (by omega) ?_)))
    by_cases c : cc l i ≤ t
    · rw [if_pos c] at nx
      refine ev_pos c ?_
      by_cases c2 : lst o (i : Int) o.length > t
      · rw [if_pos c2] at nx
        exact ev_pos c2 nx
      · rw [if_neg c2, Int.add_zero] at nx
        exact ev_neg c2 nx
    · rw [if_neg c, Int.add_zero] at nx
      exact ev_neg c nx
theorem iThereAt_ev (l : List S42) (o : List Int) (t : Int) (hl : l.length ≤ 9223372036854775806) : Ev (fun k => impl_ThereAt.f k l o t) (THERE l o t) := by
  unfold impl_ThereAt.f
  have no : ∀ b : Bool, b = true → THERE l o t = -1 → Ev (fun k => impl_ThereAt.j0 k l o t b) (THERE l o t) := by
    intro b hb he
    refine ev_succ ?_
    simp only [impl_ThereAt.j0]
    exact ev_pos hb (ev_some he.symm)
  refine Ev.bind (iOrderOk_ev l o hl) ?_
  by_cases h : OOK l o
  · refine ev_pos (dec_pos h) ?_
    by_cases h0 : t < 0
    · exact ev_pos h0 (no _ rfl (THERE_neg (by omega)))
    · refine ev_neg h0 ?_
      by_cases h1 : t ≥ 200
      · exact no _ (decide_eq_true h1) (THERE_neg (by omega))
      · rw [decide_eq_false h1, THERE_pos h (by omega) (by omega)]
        refine ev_succ ?_
        simp only [impl_ThereAt.j0]
        exact ev_neg (by simp) (Ev.bind (iendsOf_ev h) (iThereAt_l0 h t l.length 0 (by omega)))
  · exact ev_neg (by rw [dec_neg h]; simp) (no _ rfl (THERE_neg (fun x => h x.1)))
theorem iAreaOf_l0 {l : List S42} {o : List Int} (h : OOK l o) : ∀ (d t : Nat), t + d = 200 → Ev (fun k => impl_AreaOf.l0 k l o (area l o t) (t : Int)) (area l o 200) := by
  have n := clen h.1
  intro d
  induction d with
  | zero =>
    intro t ht
    obtain rfl : t = 200 := by omega
    refine ev_succ ?_
    simp only [impl_AreaOf.l0]
    exact ev_neg (by omega) (Ev.now _)
  | succ d ih =>
    intro t ht
    have a := area_in h (t + 1)
    have th := iThereAt_ev l o (t : Int) (by omega)
    rw [THERE_pos h (by omega) (by omega)] at th
    have e : wrap64 (area l o t + sg (isThere l o (t : Int)) l.length) = area l o (t + 1) := wrap_id (by show _ ≤ area l o (t + 1); omega) (by show area l o (t + 1) ≤ _; omega)
    refine ev_succ ?_
    simp only [impl_AreaOf.l0]
    rw [wrap_succ (i := t) (by omega)]
    refine ev_pos (by omega) (Ev.bind th ?_)
    rw [e]
    exact ih (t + 1) (by omega)
theorem iAreaOf_ev (l : List S42) (o : List Int) (hl : l.length ≤ 9223372036854775806) : Ev (fun k => impl_AreaOf.f k l o) (SUMV l o) := by
  unfold impl_AreaOf.f
  refine Ev.bind (iOrderOk_ev l o hl) ?_
  by_cases h : OOK l o
  · have ho := h.2.1
    exact ev_pos (dec_pos h) (ev_to (iAreaOf_l0 h 200 0 (by omega)) (area_all h 200 (by omega)))
  · exact ev_neg (by rw [dec_neg h]; simp) (ev_some (SUMV_neg h).symm)
theorem needOf_l0 {l : List S42} (hl : l.length ≤ 1000) (h : ∀ i : Nat, i < l.length → 1 ≤ pp l i ∧ pp l i ≤ 9) : ∀ (d i : Nat), i + d = l.length → Ev (fun k => impl_needOf.l0 k (sg (pp l) i) l (l.length : Int) (i : Int)) (sg (pp l) l.length) := by
  intro d
  induction d with
  | zero =>
    intro i hi
    obtain rfl : i = l.length := by omega
    refine ev_succ ?_
    simp only [impl_needOf.l0]
    exact ev_neg (by omega) (Ev.now _)
  | succ d ih =>
    intro i hi
    have b := sg_in (f := pp l) (A := 0) (B := 9) i (fun j hj => by have := h j (by omega); omega)
    have c := h i (by omega)
    have e : wrap64 (sg (pp l) i + (rd_T42 l (i : Int)).f1) = sg (pp l) (i + 1) := wrap_id (by show _ ≤ sg (pp l) i + pp l i; omega) (by show sg (pp l) i + pp l i ≤ _; omega)
    refine ev_succ ?_
    simp only [impl_needOf.l0, e]
    rw [wrap_succ (i := i) (by omega)]
    exact ev_pos (by omega) (ev_pos (by omega) (ev_pos (by omega) (ih (i + 1) (by omega))))
theorem needOf_ev {l : List S42} (hl : l.length ≤ 1000) (h : ∀ i : Nat, i < l.length → 1 ≤ pp l i ∧ pp l i ≤ 9) : Ev (fun k => impl_needOf.f k l) (sg (pp l) l.length) := needOf_l0 hl h l.length 0 (by omega)
theorem iWaitingArea_ev (l : List S42) (o : List Int) (hl : l.length ≤ 9223372036854775806) : Ev (fun k => impl_WaitingArea.f k l o) (WAV l o) := by
  unfold impl_WaitingArea.f
  refine Ev.bind (iOrderOk_ev l o hl) ?_
  by_cases h : OOK l o
  · have n := clen h.1
    have b := SUMV_in h
    have c := sg_in (f := pp l) (A := 1) (B := 9) l.length (fun i hi => pp_in h.1 hi)
    refine ev_pos (dec_pos h) (Ev.bind (iAreaOf_ev l o hl) (Ev.bind (needOf_ev (by omega) (fun i hi => pp_in h.1 hi)) (ev_some ?_)))
    rw [wrap_id (by omega) (by omega), WAV_pos h]
  · exact ev_neg (by rw [dec_neg h]; simp) (ev_some (WAV_neg h).symm)
theorem l1In_eq (a b c : Int) : spec_l1In.f a b c = some (dec (b ≤ a ∧ a ≤ c)) := by
  unfold spec_l1In.f
  by_cases h : a ≥ b
  · rw [if_pos h]
    by_cases h2 : a ≤ c
    · rw [decide_eq_true h2, dec_pos ⟨h, h2⟩]
    · rw [decide_eq_false h2, dec_neg (fun x => h2 x.2)]
  · rw [if_neg h, dec_neg (fun x => h x.1)]
theorem l1In_ev (a b c : Int) : Ev (fun _ => spec_l1In.f a b c) (dec (b ≤ a ∧ a ≤ c)) := Ev.congr (fun _ => l1In_eq a b c) (Ev.now _)
theorem sCustomersOk_l0 (l : List S42) (hl : l.length ≤ 9223372036854775806) : ∀ d i : Nat, i + d = l.length →
    Ev (fun k => spec_CustomersOk.l0 k l (i : Int)) (dec ((∀ j : Nat, i ≤ j → j < l.length → CIn l j) ∧ (l.length : Int) ≤ 8)) := by
  intro d
  induction d with
  | zero =>
    intro i hi
    refine ev_succ ?_
    simp only [spec_CustomersOk.l0]
    refine ev_neg (by omega) (ev_some ?_)
    obtain rfl : i = l.length := by omega
    rw [dec_of]
    exact dec_congr ⟨fun h => ⟨from_end, h⟩, fun h => h.2⟩
  | succ d ih =>
    intro i hi
    refine ev_succ ?_
    simp only [spec_CustomersOk.l0]
    have hs := from_step (i := i) (n := l.length) (Q := fun j => CIn l j) (by omega)
    refine ev_pos (by omega) (ev_pos (by omega) (Ev.bind (l1In_ev _ _ _) ?_))
    by_cases h1 : 0 ≤ (rd_T42 l (i : Int)).f0 ∧ (rd_T42 l (i : Int)).f0 ≤ 60
    · refine ev_pos (dec_pos h1) (Ev.bind (l1In_ev _ _ _) ?_)
      by_cases h2 : 1 ≤ (rd_T42 l (i : Int)).f1 ∧ (rd_T42 l (i : Int)).f1 ≤ 9
      · refine ev_pos (dec_pos h2) ?_
        rw [wrap_succ (by omega), wrap_pred (by omega)]
        by_cases h3 : (i : Int) > 0
        · refine ev_pos h3 (ev_pos (by omega) (ev_pos (by omega) ?_))
          by_cases h4 : (rd_T42 l (i : Int)).f0 < (rd_T42 l ((i : Int) - 1)).f0
          · exact ev_pos h4 (ev_some (dec_neg (fun x => by have := (hs.1 x.1).1.2.2 (by omega); omega)).symm)
          · refine ev_neg h4 (ev_to (ih (i + 1) (by omega)) (dec_congr ?_))
            rw [hs]
            exact ⟨fun x => ⟨⟨⟨h1, h2, fun _ => by omega⟩, x.1⟩, x.2⟩, fun x => ⟨x.1.2, x.2⟩⟩
        · refine ev_neg h3 (ev_to (ih (i + 1) (by omega)) (dec_congr ?_))
          rw [hs]
          exact ⟨fun x => ⟨⟨⟨h1, h2, fun _ => by omega⟩, x.1⟩, x.2⟩, fun x => ⟨x.1.2, x.2⟩⟩
      · exact ev_neg (by rw [dec_neg h2]; simp) (ev_some (dec_neg (fun x => h2 (hs.1 x.1).1.2.1)).symm)
    · exact ev_neg (by rw [dec_neg h1]; simp) (ev_some (dec_neg (fun x => h1 (hs.1 x.1).1.1)).symm)
theorem sCustomersOk_ev (l : List S42) (hl : l.length ≤ 9223372036854775806) : Ev (fun k => spec_CustomersOk.f k l) (dec (COK l)) := sCustomersOk_l0 l hl l.length 0 (by omega)
/-- Behind both loops. -/
theorem sOrderOk_l2 (l : List S42) (o x : List Int) (hx : x.length ≤ 1048576) (hl : l.length ≤ 9223372036854775806) : ∀ (d i : Nat), i + d = x.length →
    Ev (fun k => spec_OrderOk.l2 k l o x (i : Int)) (dec ((∀ j : Nat, i ≤ j → j < x.length → rd x (j : Int) ≤ 0) ∧ COK l ∧ (o.length : Int) ≤ 200)) := by
  intro d
  induction d with
  | zero =>
    intro i hi
    obtain rfl : i = x.length := by omega
    refine ev_succ ?_
    simp only [spec_OrderOk.l2]
    refine ev_neg (by omega) (Ev.bind (sCustomersOk_ev l hl) ?_)
    by_cases h : COK l
    · refine ev_pos (dec_pos h) (ev_some ?_)
      rw [dec_of]
      exact dec_congr ⟨fun a => ⟨from_end, h, a⟩, fun a => a.2.2⟩
    · exact ev_neg (by rw [dec_neg h]; simp) (ev_some (dec_neg (fun a => h a.2.1)).symm)
  | succ d ih =>
    intro i hi
    refine ev_succ ?_
    simp only [spec_OrderOk.l2]
    rw [wrap_succ (i := i) (by omega)]
    refine ev_pos (by omega) (ev_pos (by omega) ?_)
    have s := from_step (i := i) (n := x.length) (Q := fun j => rd x (j : Int) ≤ 0) (by omega)
    by_cases c : rd x (i : Int) > 0
    · exact ev_pos c (ev_some (dec_neg (fun h => by have := (s.1 h.1).1; omega)).symm)
    · refine ev_neg c (ev_to (ih (i + 1) (by omega)) (dec_congr ?_))
      rw [s]
      exact ⟨fun h => ⟨⟨by omega, h.1⟩, h.2⟩, fun h => ⟨h.1.2, h.2⟩⟩
/-- Other customers, or a row too long: never an order. -/
theorem sOrderOk_no {l : List S42} {o : List Int} (h : ¬(COK l ∧ (o.length : Int) ≤ 200)) (hl : l.length ≤ 1048576) (ho : o.length ≤ 9223372036854775806) : ∀ (d t : Nat) (x : List Int), t + d = o.length → x.length = l.length →
    Ev (fun k => spec_OrderOk.l1 k l o x (t : Int)) false := by
  intro d
  induction d with
  | zero =>
    intro t x ht hx
    refine ev_succ ?_
    simp only [spec_OrderOk.l1]
    exact ev_neg (by omega) (ev_to (sOrderOk_l2 l o x (by omega) (by omega) x.length 0 (by omega)) (dec_neg (fun a => h a.2)))
  | succ d ih =>
    intro t x ht hx
    have no : ∀ w, Ev (fun k => spec_OrderOk.j2 k l o x (t : Int) w true) false := by
      intro w
      refine ev_succ ?_
      simp only [spec_OrderOk.j2]
      exact ev_pos (by simp) (Ev.now _)
    refine ev_succ ?_
    simp only [spec_OrderOk.l1]
    refine ev_pos (by omega) (ev_pos (by omega) (Ev.bind (l1In_ev _ _ _) ?_))
    rw [wrap_id (x := (l.length : Int) - 1) (by omega) (by omega)]
    by_cases c : -1 ≤ rd o (t : Int) ∧ rd o (t : Int) ≤ (l.length : Int) - 1
    · refine ev_pos (dec_pos c) ?_
      by_cases c3 : rd o (t : Int) ≥ 0
      · refine ev_pos c3 (ev_pos c3 (ev_pos (by omega) ?_))
        have go : ∀ b : Bool, Ev (fun k => spec_OrderOk.j2 k l o x (t : Int) (rd o (t : Int)) b) false := by
          intro b
          cases b
          · refine ev_succ ?_
            simp only [spec_OrderOk.j2]
            refine ev_neg (by simp) (ev_pos c3 (ev_pos c3 (ev_pos (by omega) ?_)))
            rw [wrap_succ (i := t) (by omega)]
            exact ih (t + 1) _ (by omega) (by rw [List.length_set]; exact hx)
          · exact no _
        by_cases c4 : (rd_T42 l (rd o (t : Int))).f0 > (t : Int)
        · exact ev_pos c4 (no _)
        · exact ev_neg c4 (ev_pos (by omega) (go _))
      · refine ev_neg c3 (ev_succ ?_)
        simp only [spec_OrderOk.j2]
        refine ev_neg (by simp) (ev_neg c3 ?_)
        rw [wrap_succ (i := t) (by omega)]
        exact ih (t + 1) _ (by omega) hx
    · exact ev_neg (by rw [dec_neg c]; simp) (no _)
theorem sOrderOk_l1 {l : List S42} {o : List Int} (h : COK l) (ho : (o.length : Int) ≤ 200) : ∀ (d t : Nat) (x : List Int), t + d = o.length → x.length = l.length → (∀ i : Nat, i < l.length → rd x (i : Int) = pp l i - cnt o (i : Int) t ∧ 0 ≤ rd x (i : Int)) →
    (∀ s : Nat, s < t → (-1 ≤ rd o (s : Int) ∧ rd o (s : Int) < (l.length : Int)) ∧ (0 ≤ rd o (s : Int) → cc l (rd o (s : Int)).toNat ≤ (s : Int))) →
    Ev (fun k => spec_OrderOk.l1 k l o x (t : Int)) (dec (OOK l o)) := by
  have n := clen h
  intro d
  induction d with
  | zero =>
    intro t x ht hx hr hs
    obtain rfl : t = o.length := by omega
    refine ev_succ ?_
    simp only [spec_OrderOk.l1]
    refine ev_neg (by omega) (ev_to (sOrderOk_l2 l o x (by omega) (by omega) x.length 0 (by omega)) (dec_congr ?_))
    constructor
    · intro a
      exact ⟨h, ho, hs, fun i hi => by have := a.1 i (Nat.zero_le _) (by omega); have := hr i hi; omega⟩
    · intro a
      refine ⟨fun i _ hi => ?_, h, ho⟩
      have := a.2.2.2 i (by omega)
      rw [(hr i (by omega)).1]; omega
  | succ d ih =>
    intro t x ht hx hr hs
    have no : ∀ w, ¬ OOK l o → Ev (fun k => spec_OrderOk.j2 k l o x (t : Int) w true) (dec (OOK l o)) := by
      intro w hn
      refine ev_succ ?_
      simp only [spec_OrderOk.j2]
      exact ev_pos (by simp) (ev_some (dec_neg hn).symm)
    have nx : ∀ s : Nat, s < t + 1 → ((-1 ≤ rd o (t : Int) ∧ rd o (t : Int) < (l.length : Int)) ∧ (0 ≤ rd o (t : Int) → cc l (rd o (t : Int)).toNat ≤ (t : Int))) → ((-1 ≤ rd o (s : Int) ∧ rd o (s : Int) < (l.length : Int)) ∧ (0 ≤ rd o (s : Int) → cc l (rd o (s : Int)).toNat ≤ (s : Int))) := by
      intro s hst a
      by_cases e : s = t
      · exact e ▸ a
      · exact hs s (by omega)
    refine ev_succ ?_
    simp only [spec_OrderOk.l1]
    refine ev_pos (by omega) (ev_pos (by omega) (Ev.bind (l1In_ev _ _ _) ?_))
    rw [wrap_id (x := (l.length : Int) - 1) (by omega) (by omega)]
    by_cases c : -1 ≤ rd o (t : Int) ∧ rd o (t : Int) ≤ (l.length : Int) - 1
    · refine ev_pos (dec_pos c) ?_
      by_cases c3 : rd o (t : Int) ≥ 0
      · refine ev_pos c3 (ev_pos c3 (ev_pos (by omega) ?_))
        obtain ⟨w, hw⟩ := Int.eq_ofNat_of_zero_le c3
        rw [hw] at nx c ⊢
        have rw_ := hr w (by omega)
        by_cases c4 : (rd_T42 l (w : Int)).f0 > (t : Int)
        · exact ev_pos c4 (no _ (fun a => by
            have b := (a.2.2.1 t (by omega)).2 c3
            rw [hw, Int.toNat_natCast] at b
            have e : cc l w = (rd_T42 l (w : Int)).f0 := rfl
            omega))
        · have c4' : cc l w ≤ (t : Int) := by show (rd_T42 l (w : Int)).f0 ≤ _; omega
          refine ev_neg c4 (ev_pos (by omega) ?_)
          by_cases c5 : rd x (w : Int) = 0
          · rw [beq_iff_eq.2 c5]
            refine no _ (fun a => ?_)
            have m := cnt_mono o (w : Int) (t + 1) o.length (by omega)
            have f := a.2.2.2 w (by omega)
            simp only [cnt] at m
            rw [if_pos hw] at m
            omega
          · rw [beq_eq_false_iff_ne.2 c5]
            have b := pp_in h (i := w) (by omega)
            have q := cnt_in o (w : Int) t
            refine ev_succ ?_
            simp only [spec_OrderOk.j2]
            refine ev_neg (by simp) (ev_pos (by omega) (ev_pos (by omega) (ev_pos (by omega) ?_)))
            rw [wrap_succ (i := t) (by omega), wrap_id (x := rd x (w : Int) - 1) (by omega) (by omega)]
            refine ih (t + 1) _ (by omega) (by rw [List.length_set]; exact hx) (fun i hi => ?_) (fun s hst => nx s hst ⟨⟨by omega, by omega⟩, fun _ => c4'⟩)
            rw [show ((w : Int).toNat) = w from rfl, rd_set _ _ _ _ (by omega)]
            simp only [cnt]
            rw [hw]
            by_cases e : i = w
            · rw [if_pos e, if_pos (by rw [e]), e]; omega
            · have := hr i hi
              rw [if_neg e, if_neg (by omega)]; omega
      · refine ev_neg c3 (ev_succ ?_)
        simp only [spec_OrderOk.j2]
        refine ev_neg (by simp) (ev_neg c3 ?_)
        rw [wrap_succ (i := t) (by omega)]
        refine ih (t + 1) _ (by omega) hx (fun i hi => ?_) (fun s hst => nx s hst ⟨⟨by omega, by omega⟩, fun z => by omega⟩)
        simp only [cnt]
        have := hr i hi
        rw [if_neg (by omega)]; omega
    · exact ev_neg (by rw [dec_neg c]; simp) (no _ (fun a => by have := (a.2.2.1 t (by omega)).1; omega))
theorem sOrderOk_l0 (l : List S42) (o : List Int) (hl : l.length ≤ 1048576) (ho : o.length ≤ 9223372036854775806) : ∀ (d : Nat) (x : List Int), x.length + d = l.length → (∀ j : Nat, j < x.length → rd x (j : Int) = pp l j) →
    Ev (fun k => spec_OrderOk.l0 k l o x (x.length : Int)) (dec (OOK l o)) := by
  intro d
  induction d with
  | zero =>
    intro x hx hr
    refine ev_succ ?_
    simp only [spec_OrderOk.l0]
    refine ev_neg (by omega) ?_
    by_cases h : COK l ∧ (o.length : Int) ≤ 200
    · refine sOrderOk_l1 h.1 h.2 o.length 0 x (by omega) (by omega) (fun i hi => ?_) (fun s hs => by omega)
      have := hr i (by omega)
      have := pp_in h.1 hi
      simp only [cnt]; omega
    · rw [dec_neg (fun a => h ⟨a.1, a.2.1⟩)]
      exact sOrderOk_no h hl ho o.length 0 x (by omega) (by omega)
  | succ d ih =>
    intro x hx hr
    have := ih (x ++ [(rd_T42 l (x.length : Int)).f1]) (by simp; omega) (fun j hj => by
      rw [rd_app]
      by_cases e : j < x.length
      · rw [if_pos e]; exact hr j e
      · have ej : j = x.length := by simp at hj; omega
        rw [if_neg e, if_pos ej, ej]; rfl)
    rw [List.length_append] at this
    refine ev_succ ?_
    simp only [spec_OrderOk.l0]
    rw [wrap_succ (i := x.length) (by omega)]
    exact ev_pos (by omega) (ev_pos (by omega) (ev_pos (by omega) this))
theorem sOrderOk_ev (l : List S42) (o : List Int) (hl : l.length ≤ 1048576) (ho : o.length ≤ 9223372036854775806) : Ev (fun k => spec_OrderOk.f k l o) (dec (OOK l o)) :=
  sOrderOk_l0 l o hl ho l.length [] (by simp) (fun j hj => by simp at hj)
theorem sEndsOf_l1 {l : List S42} {o : List Int} (h : OOK l o) (x : List Int) (hx : x.length < l.length) (r : List Int) (H : Ev (fun k => spec_EndsOf.l0 k l o (x ++ [lst o (x.length : Int) o.length]) ((x.length + 1 : Nat) : Int)) r) :
    ∀ (d t : Nat), t + d = o.length → Ev (fun k => spec_EndsOf.l1 k l o x (x.length : Int) (lst o (x.length : Int) t) (t : Int)) r := by
  have ho := h.2.1
  have n := clen h.1
  intro d
  induction d with
  | zero =>
    intro t ht
    obtain rfl : t = o.length := by omega
    refine ev_succ ?_
    simp only [spec_EndsOf.l1]
    rw [wrap_succ (i := x.length) (by omega)]
    exact ev_neg (by omega) (ev_pos (by omega) H)
  | succ d ih =>
    intro t ht
    have := ih (t + 1) (by omega)
    simp only [lst] at this
    refine ev_succ ?_
    simp only [spec_EndsOf.l1]
    rw [wrap_succ (i := t) (by omega)]
    refine ev_pos (by omega) (ev_pos (by omega) ?_)
    by_cases c : rd o (t : Int) = (x.length : Int)
    · rw [if_pos c] at this
      exact ev_pos c this
    · rw [if_neg c] at this
      exact ev_neg c this
theorem sEndsOf_l0 {l : List S42} {o : List Int} (h : OOK l o) : ∀ (d : Nat) (x : List Int), x.length + d = l.length → (∀ i : Nat, i < x.length → rd x (i : Int) = lst o (i : Int) o.length) →
    Ev (fun k => spec_EndsOf.l0 k l o x (x.length : Int)) (tab l.length (fun i => lst o (i : Int) o.length)) := by
  have ho := h.2.1
  have n := clen h.1
  intro d
  induction d with
  | zero =>
    intro x hx hr
    refine ev_succ ?_
    simp only [spec_EndsOf.l0]
    refine ev_neg (by omega) (ev_succ ?_)
    simp only [spec_EndsOf.j1]
    exact ev_neg (by simp) (ev_some (eq_tab (by omega) (fun i hi => hr i (by omega))))
  | succ d ih =>
    intro x hx hr
    refine ev_succ ?_
    simp only [spec_EndsOf.l0]
    refine ev_pos (by omega) (Ev.bind (sOrderOk_ev l o (by omega) (by omega)) (ev_succ ?_))
    simp only [spec_EndsOf.j1]
    refine ev_pos (dec_pos h) ?_
    refine sEndsOf_l1 h x (by omega) _ ?_ o.length 0 (by omega)
    have := ih (x ++ [lst o (x.length : Int) o.length]) (by simp; omega) (fun j hj => by
      rw [rd_app]
      by_cases e : j < x.length
      · rw [if_pos e]; exact hr j e
      · have ej : j = x.length := by simp at hj; omega
        rw [if_neg e, if_pos ej, ej])
    rw [List.length_append] at this
    exact this
theorem sEndsOf_ev (l : List S42) (o : List Int) (hl : l.length ≤ 1048576) (ho : o.length ≤ 9223372036854775806) : Ev (fun k => spec_EndsOf.f k l o) (ENDS l o) := by
  unfold spec_EndsOf.f
  by_cases h : OOK l o
  · rw [ENDS_pos h]
    exact sEndsOf_l0 h l.length [] (by simp) (fun j hj => by simp at hj)
  · rw [ENDS_neg h]
    have no : ∀ b : Bool, b = false → Ev (fun k => spec_EndsOf.j1 k l o [] 0 b) [] := by
      intro b hb
      refine ev_succ ?_
      simp only [spec_EndsOf.j1]
      exact ev_neg (by rw [hb]; simp) (Ev.now _)
    refine ev_succ ?_
    simp only [spec_EndsOf.l0]
    by_cases h0 : 0 < (l.length : Int)
    · exact ev_pos h0 (Ev.bind (sOrderOk_ev l o hl ho) (no _ (dec_neg h)))
    · exact ev_neg h0 (no _ rfl)
theorem sThereAt_l0 {l : List S42} {o : List Int} (h : OOK l o) (t : Int) : ∀ (d i : Nat), i + d = l.length →
    Ev (fun k => spec_ThereAt.l0 k l t (sg (isThere l o t) i) (tab l.length (fun i => lst o (i : Int) o.length)) (i : Int)) (sg (isThere l o t) l.length) := by
  have n := clen h.1
  have tl := tab_len l.length (fun i => lst o (i : Int) o.length)
  intro d
  induction d with
  | zero =>
    intro i hi
    obtain rfl : i = l.length := by omega
    refine ev_succ ?_
    simp only [spec_ThereAt.l0]
    exact ev_neg (by omega) (Ev.now _)
  | succ d ih =>
    intro i hi
    have b := there_in (l := l) (o := o) (t := t) i
    have nx := ih (i + 1) (by omega)
    have e1 : isThere l o t i = if cc l i ≤ t then if lst o (i : Int) o.length > t then 1 else 0 else 0 := rfl
    simp only [sg] at nx
    rw [e1] at nx
    refine ev_succ ?_
    simp only [spec_ThereAt.l0]
    rw [wrap_succ (i := i) (by omega), rd_tab _ _ _ (by omega), wrap_id (x := _ + 1) (by omega) (by omega)]
    refine ev_pos (by omega) (ev_pos (by omega) ?_)
    by_cases c : cc l i ≤ t
    · rw [if_pos c] at nx
      refine ev_pos c (ev_pos (by omega) ?_)
      by_cases c2 : lst o (i : Int) o.length > t
      · rw [if_pos c2] at nx
        exact ev_pos c2 nx
      · rw [if_neg c2, Int.add_zero] at nx
        exact ev_neg c2 nx
    · rw [if_neg c, Int.add_zero] at nx
      exact ev_neg c nx
theorem sThereAt_ev (l : List S42) (o : List Int) (t : Int) (hl : l.length ≤ 1048576) (ho : o.length ≤ 9223372036854775806) : Ev (fun k => spec_ThereAt.f k l o t) (THERE l o t) := by
  unfold spec_ThereAt.f
  have no : ∀ b : Bool, b = true → THERE l o t = -1 → Ev (fun k => spec_ThereAt.j0 k l o t b) (THERE l o t) := by
    intro b hb he
    refine ev_succ ?_
    simp only [spec_ThereAt.j0]
    exact ev_pos hb (ev_some he.symm)
  refine Ev.bind (sOrderOk_ev l o hl ho) ?_
  by_cases h : OOK l o
  · refine ev_pos (dec_pos h) (Ev.bind (l1In_ev _ _ _) ?_)
    by_cases h0 : 0 ≤ t ∧ t ≤ 199
    · rw [dec_pos h0, THERE_pos h (by omega) (by omega)]
      refine ev_succ ?_
      simp only [spec_ThereAt.j0]
      refine ev_neg (by simp) (Ev.bind (sEndsOf_ev l o hl ho) ?_)
      rw [ENDS_pos h]
      exact sThereAt_l0 h t l.length 0 (by omega)
    · exact no _ (by rw [dec_neg h0]; rfl) (THERE_neg (fun x => h0 ⟨x.2.1, by omega⟩))
  · exact ev_neg (by rw [dec_neg h]; simp) (no _ rfl (THERE_neg (fun x => h x.1)))
theorem sWaitingArea_l0 {l : List S42} {o : List Int} (h : OOK l o) : ∀ (d t : Nat), t + d = o.length → Ev (fun k => spec_WaitingArea.l0 k l o (area l o t - sg (isServed o) t) (t : Int)) (area l o o.length - sg (isServed o) o.length) := by
  have n := clen h.1
  have ho := h.2.1
  intro d
  induction d with
  | zero =>
    intro t ht
    obtain rfl : t = o.length := by omega
    refine ev_succ ?_
    simp only [spec_WaitingArea.l0]
    exact ev_neg (by omega) (Ev.now _)
  | succ d ih =>
    intro t ht
    have a := area_in h (t + 1)
    have a0 := area_in h t
    have s := sg_in (f := isServed o) (A := 0) (B := 1) t (fun j _ => by unfold isServed; split <;> omega)
    have th := sThereAt_ev l o (t : Int) (by omega) (by omega)
    rw [THERE_pos h (by omega) (by omega)] at th
    have e : wrap64 (area l o t - sg (isServed o) t + sg (isThere l o (t : Int)) l.length) = area l o (t + 1) - sg (isServed o) t := by
      have e2 : area l o (t + 1) = area l o t + sg (isThere l o (t : Int)) l.length := rfl
      rw [wrap_id (by omega) (by omega), e2]; omega
    have nx := ih (t + 1) (by omega)
    have e3 : isServed o t = if rd o (t : Int) ≥ 0 then 1 else 0 := rfl
    have e4 : sg (isServed o) (t + 1) = sg (isServed o) t + isServed o t := rfl
    rw [e4, e3] at nx
    refine ev_succ ?_
    simp only [spec_WaitingArea.l0]
    rw [wrap_succ (i := t) (by omega)]
    refine ev_pos (by omega) (Ev.bind th (ev_pos (by omega) ?_))
    rw [e, wrap_id (x := _ - 1) (by omega) (by omega)]
    by_cases c : rd o (t : Int) ≥ 0
    · rw [if_pos c] at nx
      refine ev_pos c ?_
      rw [show area l o (t + 1) - sg (isServed o) t - 1 = area l o (t + 1) - (sg (isServed o) t + 1) by omega]
      exact nx
    · rw [if_neg c, Int.add_zero] at nx
      exact ev_neg c nx
theorem sWaitingArea_ev (l : List S42) (o : List Int) (hl : l.length ≤ 1048576) (ho : o.length ≤ 9223372036854775806) : Ev (fun k => spec_WaitingArea.f k l o) (WAV l o) := by
  unfold spec_WaitingArea.f
  refine Ev.bind (sOrderOk_ev l o hl ho) ?_
  by_cases h : OOK l o
  · refine ev_pos (dec_pos h) (ev_to (sWaitingArea_l0 h o.length 0 (by omega)) ?_)
    rw [area_all h o.length (Nat.le_refl _), served_all h, WAV_pos h]
  · exact ev_neg (by rw [dec_neg h]; simp) (ev_some (WAV_neg h).symm)
def cvCustomer (x : S58) : S42 := ⟨x.f0, x.f1⟩
theorem toCustomerS_l0 (l : List S58) (hl : l.length ≤ 1048576) : ∀ (d i : Nat) (o : List S42), i + d = l.length → o.length = l.length → (∀ j : Nat, j < i → rd_T42 o (j : Int) = cvCustomer (rd_T58 l (j : Int))) →
    Ev (fun k => laws_toCustomerS.l0 k l o (i : Int)) (l.map cvCustomer) := by
  intro d
  induction d with
  | zero =>
    intro i o hi ho hr
    refine ev_succ ?_
    simp only [laws_toCustomerS.l0]
    refine ev_neg (by omega) (ev_some ?_)
    refine sCustomer_ext (by rw [List.length_map]; exact ho) (fun j hj => ?_)
    rw [hr j (by omega), sCustomer_nat, List.getD_eq_getElem?_getD, List.getElem?_map, List.getElem?_eq_getElem (by omega)]
    show cvCustomer (l.getD j _) = cvCustomer _
    rw [List.getD_eq_getElem?_getD, List.getElem?_eq_getElem (by omega)]; rfl
  | succ d ih =>
    intro i o hi ho hr
    refine ev_succ ?_
    simp only [laws_toCustomerS.l0, laws_toCustomer.f, Option.bind_some]
    refine ev_pos (by omega) (ev_pos (by omega) (ev_pos (by omega) ?_))
    rw [wrap_succ (by omega)]
    refine ih (i + 1) _ (by omega) (by rw [List.length_set]; exact ho) ?_
    intro j hj
    rw [show ((i : Int).toNat) = i from rfl, sCustomer_set o i j _ (by omega)]
    by_cases e : j = i
    · rw [if_pos e, e]; rfl
    · rw [if_neg e]; exact hr j (by omega)
theorem toCustomerS_ev (l : List S58) (hl : l.length ≤ 1048576) : Ev (fun k => laws_toCustomerS.f k l) (l.map cvCustomer) := by
  unfold laws_toCustomerS.f
  refine ev_pos (by omega) (ev_pos (by omega) ?_)
  refine toCustomerS_l0 l hl l.length 0 _ (by omega) (by simp) (fun j hj => by omega)
theorem szCustomerS_eq (l : List S58) (hl : l.length ≤ 1048576) : laws_szCustomerS.f l 1048576 = some (1048576 - (l.length : Int)) := by
  unfold laws_szCustomerS.f
  rw [wrap_id (by omega) (by omega), if_neg (by omega)]
theorem szCustomerS_big (l : List S58) (h0 : l.length ≤ 9223372036854775807) (hl : ¬ l.length ≤ 1048576) : laws_szCustomerS.f l 1048576 = some (-1) := by
  unfold laws_szCustomerS.f
  rw [wrap_id (by omega) (by omega), if_pos (by omega)]
theorem eqCustomerS_l0 (a b : List S42) (hl : a.length ≤ 9223372036854775806) (hb : a.length = b.length) : ∀ (d i : Nat), i + d = a.length → (∀ j : Nat, j < i → rd_T42 a (j : Int) = rd_T42 b (j : Int)) →
    Ev (fun k => laws_eqCustomerS.l0 k a b (i : Int)) (dec (a = b)) := by
  intro d
  induction d with
  | zero =>
    intro i hi hr
    refine ev_succ ?_
    simp only [laws_eqCustomerS.l0]
    refine ev_neg (by omega) (ev_some ?_)
    exact (dec_pos (sCustomer_ext hb (fun j hj => hr j (by omega)))).symm
  | succ d ih =>
    intro i hi hr
    refine ev_succ ?_
    simp only [laws_eqCustomerS.l0, laws_eqCustomer.f]
    refine ev_pos (by omega) (ev_pos (by omega) (ev_pos (by omega) ?_))
    by_cases h : (rd_T42 a (i : Int)).f0 = (rd_T42 b (i : Int)).f0
    · by_cases h2 : (rd_T42 a (i : Int)).f1 = (rd_T42 b (i : Int)).f1
      · rw [if_pos h, if_pos h2]
        simp only [Option.bind_some]
        refine ev_pos (by simp) ?_
        rw [wrap_succ (by omega)]
        refine ih (i + 1) (by omega) ?_
        intro j hj
        by_cases e : j = i
        · rw [e]
          cases ha : rd_T42 a (i : Int); cases hb' : rd_T42 b (i : Int)
          rw [ha, hb'] at h h2
          simp only at h h2
          rw [h, h2]
        · exact hr j (by omega)
      · rw [if_pos h, if_neg h2]
        simp only [Option.bind_some]
        refine ev_neg (by simp) (ev_some (dec_neg ?_).symm)
        intro e; exact h2 (by rw [e])
    · rw [if_neg h]
      simp only [Option.bind_some]
      refine ev_neg (by simp) (ev_some (dec_neg ?_).symm)
      intro e; exact h (by rw [e])
theorem eqCustomerS_ev (a b : List S42) (hl : a.length ≤ 9223372036854775806) : Ev (fun k => laws_eqCustomerS.f k a b) (dec (a = b)) := by
  unfold laws_eqCustomerS.f
  by_cases h : a.length = b.length
  · refine ev_pos (by omega) ?_
    exact eqCustomerS_l0 a b hl h a.length 0 (by omega) (fun j hj => by omega)
  · refine ev_neg (by omega) (ev_some (dec_neg ?_).symm)
    intro e; exact h (by rw [e])
theorem toIntS_l0 (l : List Int) (hl : l.length ≤ 1048576) : ∀ (d i : Nat) (o : List Int), i + d = l.length → o.length = l.length → (∀ j : Nat, j < i → rd o (j : Int) = rd l (j : Int)) →
    Ev (fun k => laws_toIntS.l0 k l o (i : Int)) l := by
  intro d
  induction d with
  | zero =>
    intro i o hi ho hr
    refine ev_succ ?_
    simp only [laws_toIntS.l0]
    refine ev_neg (by omega) (ev_some ?_)
    exact rd_ext ho (fun j hj => hr j (by omega))
  | succ d ih =>
    intro i o hi ho hr
    refine ev_succ ?_
    simp only [laws_toIntS.l0]
    refine ev_pos (by omega) (ev_pos (by omega) (ev_pos (by omega) ?_))
    rw [wrap_succ (by omega)]
    refine ih (i + 1) _ (by omega) (by rw [List.length_set]; exact ho) ?_
    intro j hj
    show rd (o.set i _) _ = _
    rw [rd_set o i j _ (by omega)]
    by_cases e : j = i
    · rw [if_pos e, e]
    · rw [if_neg e]; exact hr j (by omega)
theorem toIntS_ev (l : List Int) (hl : l.length ≤ 1048576) : Ev (fun k => laws_toIntS.f k l) l := by
  unfold laws_toIntS.f
  refine ev_pos (by omega) (ev_pos (by omega) ?_)
  refine toIntS_l0 l hl l.length 0 _ (by omega) (by simp) (fun j hj => by omega)
theorem eqIntS_l0 (a b : List Int) (hl : a.length ≤ 9223372036854775806) (hb : a.length = b.length) : ∀ (d i : Nat), i + d = a.length → (∀ j : Nat, j < i → rd a (j : Int) = rd b (j : Int)) →
    Ev (fun k => laws_eqIntS.l0 k a b (i : Int)) (dec (a = b)) := by
  intro d
  induction d with
  | zero =>
    intro i hi hr
    refine ev_succ ?_
    simp only [laws_eqIntS.l0]
    refine ev_neg (by omega) (ev_some ?_)
    exact (dec_pos (rd_ext hb (fun j hj => hr j (by omega)))).symm
  | succ d ih =>
    intro i hi hr
    refine ev_succ ?_
    simp only [laws_eqIntS.l0]
    refine ev_pos (by omega) (ev_pos (by omega) (ev_pos (by omega) ?_))
    by_cases h : rd a (i : Int) = rd b (i : Int)
    · refine ev_pos h ?_
      rw [wrap_succ (by omega)]
      refine ih (i + 1) (by omega) ?_
      intro j hj
      by_cases e : j = i
      · rw [e]; exact h
      · exact hr j (by omega)
    · refine ev_neg h (ev_some (dec_neg ?_).symm)
      intro e; exact h (by rw [e])
theorem eqIntS_ev (a b : List Int) (hl : a.length ≤ 9223372036854775806) : Ev (fun k => laws_eqIntS.f k a b) (dec (a = b)) := by
  unfold laws_eqIntS.f
  by_cases h : a.length = b.length
  · refine ev_pos (by omega) ?_
    exact eqIntS_l0 a b hl h a.length 0 (by omega) (fun j hj => by omega)
  · refine ev_neg (by omega) (ev_some (dec_neg ?_).symm)
    intro e; exact h (by rw [e])
theorem FnExactWaitingArea (l0 : List S58) (l1 : List Int) (h0 : l0.length ≤ 9223372036854775807) : ∃ k, laws_FnExactWaitingArea.f k l0 l1 = some true := by
  refine Ev.rounds ?_
  unfold laws_FnExactWaitingArea.f
  by_cases h1 : (l1.length : Int) > 1048576
  · exact ev_pos h1 (Ev.now _)
  refine ev_neg h1 ?_
  have hl1 : l1.length ≤ 1048576 := by omega
  by_cases h : l0.length ≤ 1048576
  · have e : (l0.map cvCustomer).length ≤ 1048576 := by rw [List.length_map]; omega
    rw [szCustomerS_eq l0 h]
    refine Ev.bind (Ev.now _) (ev_neg (by omega) (Ev.bind (toCustomerS_ev l0 h) (Ev.bind (toIntS_ev l1 hl1) (Ev.bind (sWaitingArea_ev _ _ e (by omega)) (Ev.bind (toCustomerS_ev l0 h) (Ev.bind (toIntS_ev l1 hl1) (Ev.bind (iWaitingArea_ev _ _ (by omega)) ?_)))))))
    exact ev_pos rfl (Ev.bind (toCustomerS_ev l0 h) (Ev.bind (eqCustomerS_ev _ _ (by omega)) (ev_pos (dec_pos rfl) (Ev.bind (toIntS_ev l1 hl1) (Ev.bind (eqIntS_ev _ _ (by omega)) (ev_pos (dec_pos rfl) (Ev.now _)))))))
  · rw [szCustomerS_big l0 h0 h]
    exact Ev.bind (Ev.now _) (ev_pos (by omega) (Ev.now _))
end Go.Proofs.Ytlainmahnfnhkaa.Pure
