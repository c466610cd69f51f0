/- The law FnWorkArea holds for every input; nothing is assumed. -/
import Derived.Test.YtlainmahnfnhkaaQFnWorkAreax6
namespace Go.Proofs.Ytlainmahnfnhkaa.Pure
open Go.RowKit Go.Proofs.Ytlainmahnfnhkaa.PFnWorkArea Go.Proofs.YtlainmahnfnhkaaW.PrintWords Go.Proofs.YtlainmahnfnhkaaW.PrintLast Go.Proofs.YtlainmahnfnhkaaW.PrintMore
set_option linter.unusedVariables false
set_option linter.unusedSimpArgs false
theorem ev_succ {α : Type} {g : Nat → Option α} {r : α} (h : Ev (fun k => g (k + 1)) r) : Ev g r := Ev.step (fun _ => rfl) h
theorem ev_pos {α : Type} {c : Prop} [Decidable c] {f g : Nat → Option α} {r : α} (h : c) (k : Ev f r) : Ev (fun n => if c then f n else g n) r := Ev.congr (fun _ => if_pos h) k
theorem ev_neg {α : Type} {c : Prop} [Decidable c] {f g : Nat → Option α} {r : α} (h : ¬c) (k : Ev g r) : Ev (fun n => if c then f n else g n) r := Ev.congr (fun _ => if_neg h) k
theorem ev_some {α : Type} {x r : α} (h : x = r) : Ev (fun _ => some x) r := h ▸ Ev.now x
theorem ev_to {α : Type} {g : Nat → Option α} {a r : α} (h : Ev g a) (e : a = r) : Ev g r := e ▸ h
/-- Whether P. -/
noncomputable def dec (P : Prop) : Bool := @decide P (Classical.propDecidable P)
theorem dec_iff {P : Prop} : dec P = true ↔ P := @decide_eq_true_iff P (Classical.propDecidable P)
theorem dec_pos {P : Prop} (h : P) : dec P = true := dec_iff.2 h
theorem dec_neg {P : Prop} (h : ¬P) : dec P = false := by
  cases e : dec P
  · rfl
  · exact absurd (dec_iff.1 e) h
theorem dec_congr {P Q : Prop} (h : P ↔ Q) : dec P = dec Q := by rw [propext h]
theorem dec_of {P : Prop} [Decidable P] : decide P = dec P := by
  by_cases h : P
  · rw [dec_pos h, decide_eq_true h]
  · rw [dec_neg h, decide_eq_false h]
theorem dec_bool {b : Bool} : b = dec (b = true) := by
  cases b
  · exact (dec_neg (by simp)).symm
  · exact (dec_pos rfl).symm
/-- From i on: at i, and from i + 1 on. -/
theorem from_step {i n : Nat} {Q : Nat → Prop} (h : i < n) : (∀ j, i ≤ j → j < n → Q j) ↔ Q i ∧ ∀ j, i + 1 ≤ j → j < n → Q j := by
  constructor
  · exact fun a => ⟨a i (Nat.le_refl _) h, fun j h1 h2 => a j (by omega) h2⟩
  · intro a j h1 h2
    by_cases e : j = i
    · exact e ▸ a.1
    · exact a.2 j (by omega) h2
theorem from_end {n : Nat} {Q : Nat → Prop} : ∀ j, n ≤ j → j < n → Q j := fun j h1 h2 => by omega
theorem wrap_id {x : Int} (h0 : -9223372036854775808 ≤ x) (h1 : x ≤ 9223372036854775807) : wrap64 x = x := by unfold wrap64; omega
theorem wrap_succ {i : Nat} (h : i ≤ 9223372036854775806) : wrap64 ((i : Int) + 1) = ((i + 1 : Nat) : Int) := by unfold wrap64; omega
theorem wrap_pred {i : Nat} (h : i ≤ 9223372036854775806) : wrap64 ((i : Int) - 1) = (i : Int) - 1 := by unfold wrap64; omega
/-- The bounds of a number of the kind int. -/
def I64 (x : Int) : Prop := -9223372036854775808 ≤ x ∧ x ≤ 9223372036854775807
theorem i64_wf {x : Int} (h : (Lit.int .i64 x).wf = true) : I64 x := by
  have h' : (decide (IntKind.i64.min ≤ x) && decide (x ≤ IntKind.i64.max)) = true := h
  have a : IntKind.i64.min = -9223372036854775808 := by decide
  have b : IntKind.i64.max = 9223372036854775807 := by decide
  rw [a, b] at h'
  simpa [I64] using h'
theorem sCustomer_nat (l : List S42) (i : Nat) : rd_T42 l (i : Int) = l.getD i z42 := rfl
theorem sCustomer_get {l : List S42} {i : Nat} (h : i < l.length) : rd_T42 l (i : Int) = l[i] := by
  rw [sCustomer_nat, List.getD_eq_getElem?_getD, List.getElem?_eq_getElem h]; rfl
theorem sCustomer_set (l : List S42) (i j : Nat) (v : S42) (h : i < l.length) : rd_T42 (l.set i v) (j : Int) = if j = i then v else rd_T42 l (j : Int) := by
  rw [sCustomer_nat, sCustomer_nat, List.getD_eq_getElem?_getD, List.getElem?_set]
  by_cases e : i = j
  · subst e; rw [if_pos rfl, if_pos h, if_pos rfl]; rfl
  · rw [if_neg e, if_neg (fun x => e x.symm), ← List.getD_eq_getElem?_getD]
theorem sCustomer_app (l : List S42) (v : S42) (j : Nat) : rd_T42 (l ++ [v]) (j : Int) = if j < l.length then rd_T42 l (j : Int) else if j = l.length then v else z42 := by
  rw [sCustomer_nat, sCustomer_nat, List.getD_eq_getElem?_getD, List.getD_eq_getElem?_getD, List.getElem?_append]
  by_cases h : j < l.length
  · rw [if_pos h, if_pos h]
  · rw [if_neg h, if_neg h]
    by_cases e : j = l.length
    · subst e; rw [if_pos rfl]; simp
    · rw [if_neg e, List.getElem?_eq_none (by simp; omega)]; rfl
theorem sCustomer_take (l : List S42) (n j : Nat) (h : j < n) : rd_T42 (l.take n) (j : Int) = rd_T42 l (j : Int) := by
  rw [sCustomer_nat, sCustomer_nat, List.getD_eq_getElem?_getD, List.getElem?_take, if_pos h, ← List.getD_eq_getElem?_getD]
theorem sCustomer_drop (l : List S42) (n j : Nat) : rd_T42 (l.drop n) (j : Int) = rd_T42 l ((n + j : Nat) : Int) := by
  rw [sCustomer_nat, sCustomer_nat, List.getD_eq_getElem?_getD, List.getElem?_drop, ← List.getD_eq_getElem?_getD]
theorem sCustomer_ext {a b : List S42} (hl : a.length = b.length) (h : ∀ j : Nat, j < a.length → rd_T42 a (j : Int) = rd_T42 b (j : Int)) : a = b := by
  refine List.ext_getElem hl fun j h1 h2 => ?_
  have := h j h1
  rw [sCustomer_get h1, sCustomer_get h2] at this
  exact this
def CIn (l : List S42) (j : Nat) : Prop := (0 ≤ (rd_T42 l (j : Int)).f0 ∧ (rd_T42 l (j : Int)).f0 ≤ 60) ∧ (1 ≤ (rd_T42 l (j : Int)).f1 ∧ (rd_T42 l (j : Int)).f1 ≤ 9) ∧ (0 < j → (rd_T42 l ((j : Int) - 1)).f0 ≤ (rd_T42 l (j : Int)).f0)
/-- Customers. -/
def COK (l : List S42) : Prop := (∀ j : Nat, 0 ≤ j → j < l.length → CIn l j) ∧ (l.length : Int) ≤ 8
def cc (l : List S42) (i : Nat) : Int := (rd_T42 l (i : Int)).f0
def pp (l : List S42) (i : Nat) : Int := (rd_T42 l (i : Int)).f1
theorem cc_in {l : List S42} (h : COK l) {i : Nat} (hi : i < l.length) : 0 ≤ cc l i ∧ cc l i ≤ 60 := (h.1 i (Nat.zero_le _) hi).1
theorem pp_in {l : List S42} (h : COK l) {i : Nat} (hi : i < l.length) : 1 ≤ pp l i ∧ pp l i ≤ 9 := (h.1 i (Nat.zero_le _) hi).2.1
theorem cc_step {l : List S42} (h : COK l) {i : Nat} (hi : i + 1 < l.length) : cc l i ≤ cc l (i + 1) := by
  have := (h.1 (i + 1) (Nat.zero_le _) hi).2.2 (by omega)
  rw [show (((i + 1 : Nat) : Int) - 1) = (i : Int) by omega] at this
  exact this
theorem cc_mono {l : List S42} (h : COK l) (j : Nat) : ∀ i : Nat, i ≤ j → j < l.length → cc l i ≤ cc l j := by
  induction j with
  | zero => intro i hi _; obtain rfl : i = 0 := by omega
            exact Int.le_refl _
  | succ j ih =>
    intro i hi hj
    by_cases e : i = j + 1
    · subst e; exact Int.le_refl _
    · have := ih i (by omega) (by omega)
      have := cc_step h hj
      omega
theorem clen {l : List S42} (h : COK l) : l.length ≤ 8 := by have := h.2; omega
/-- f 0 to f (n - 1), added. -/
def sg (f : Nat → Int) : Nat → Int
  | 0 => 0
  | n + 1 => sg f n + f n
theorem sg_congr {f g : Nat → Int} : ∀ n : Nat, (∀ i, i < n → f i = g i) → sg f n = sg g n
  | 0, _ => rfl
  | n + 1, h => by
    simp only [sg]
    rw [sg_congr n (fun i hi => h i (by omega)), h n (by omega)]
theorem sg_le {f g : Nat → Int} : ∀ n : Nat, (∀ i, i < n → f i ≤ g i) → sg f n ≤ sg g n
  | 0, _ => Int.le_refl _
  | n + 1, h => by
    have := sg_le n (fun i hi => h i (by omega))
    have := h n (by omega)
    simp only [sg]; omega
theorem sg_in {f : Nat → Int} {A B : Int} : ∀ n : Nat, (∀ i, i < n → A ≤ f i ∧ f i ≤ B) → A * (n : Int) ≤ sg f n ∧ sg f n ≤ B * (n : Int)
  | 0, _ => by simp [sg]
  | n + 1, h => by
    have a := sg_in n (fun i hi => h i (by omega))
    have b := h n (by omega)
    have e1 : A * ((n + 1 : Nat) : Int) = A * (n : Int) + A := by rw [Int.natCast_add, Int.mul_add]; simp
    have e2 : B * ((n + 1 : Nat) : Int) = B * (n : Int) + B := by rw [Int.natCast_add, Int.mul_add]; simp
    simp only [sg]
    rw [e1, e2]; omega
theorem sg_add (f g : Nat → Int) : ∀ n : Nat, sg (fun i => f i + g i) n = sg f n + sg g n
  | 0 => rfl
  | n + 1 => by simp only [sg]; rw [sg_add f g n]; omega
theorem sg_sub (f g : Nat → Int) : ∀ n : Nat, sg (fun i => f i - g i) n = sg f n - sg g n
  | 0 => rfl
  | n + 1 => by simp only [sg]; rw [sg_sub f g n]; omega
theorem sg_zero : ∀ n : Nat, sg (fun _ => 0) n = 0
  | 0 => rfl
  | n + 1 => by simp only [sg]; rw [sg_zero n]; rfl
theorem sg_swap (f : Nat → Nat → Int) (n : Nat) : ∀ m : Nat, sg (fun t => sg (fun i => f t i) n) m = sg (fun i => sg (fun t => f t i) m) n
  | 0 => by simp only [sg]; exact (sg_zero n).symm
  | m + 1 => by
    simp only [sg]
    rw [sg_swap f n m, ← sg_add]
theorem sg_split (f : Nat → Int) (n : Nat) : ∀ m : Nat, sg f (n + m) = sg f n + sg (fun i => f (n + i)) m
  | 0 => by simp [sg]
  | m + 1 => by
    show sg f (n + m) + f (n + m) = _
    simp only [sg]
    rw [sg_split f n m]; omega
theorem sg_mem {f : Nat → Int} : ∀ (n i : Nat), i < n → (∀ j, j < n → 0 ≤ f j) → f i ≤ sg f n
  | n + 1, i, hi, h => by
    simp only [sg]
    by_cases e : i = n
    · subst e
      have := (sg_in (A := 0) (B := sg f i) i (fun j hj => ⟨h j (by omega), sg_mem i j hj (fun k hk => h k (by omega))⟩)).1
      omega
    · have := sg_mem n i (by omega) (fun k hk => h k (by omega))
      have := h n (by omega)
      omega
theorem sg_nonneg {f : Nat → Int} : ∀ n : Nat, (∀ j, j < n → 0 ≤ f j) → 0 ≤ sg f n
  | 0, _ => Int.le_refl _
  | n + 1, h => by
    have := sg_nonneg n (fun j hj => h j (by omega))
    have := h n (by omega)
    simp only [sg]; omega
/-- One unit at k. -/
theorem sg_unit (k : Nat) (x : Int) : ∀ n : Nat, sg (fun i => if i = k then x else 0) n = if k < n then x else 0
  | 0 => rfl
  | n + 1 => by
    simp only [sg]
    rw [sg_unit k x n]
    by_cases e : n = k
    · rw [if_neg (by omega), if_pos e, if_pos (by omega)]; omega
    · rw [if_neg e]
      by_cases c : k < n
      · rw [if_pos c, if_pos (by omega)]; omega
      · rw [if_neg c, if_neg (by omega)]; rfl
theorem mx_lt {a b : Int} (h : a < b) : mx a b = b := if_pos h
theorem mx_ge {a b : Int} (h : ¬ a < b) : mx a b = a := if_neg h
theorem mx_le {a b c : Int} : mx a b ≤ c ↔ a ≤ c ∧ b ≤ c := by unfold mx; split <;> omega
theorem le_mx {a b : Int} : a ≤ mx a b ∧ b ≤ mx a b := by unfold mx; split <;> omega
theorem mx_max (a b : Int) : mx a b = max a b := by unfold mx; split <;> omega
theorem rd_nat (l : List Int) (i : Nat) : rd l (i : Int) = l.getD i 0 := rfl
theorem rd_set (l : List Int) (i j : Nat) (v : Int) (h : i < l.length) : rd (l.set i v) (j : Int) = if j = i then v else rd l (j : Int) := by
  rw [rd_nat, rd_nat, List.getD_eq_getElem?_getD, List.getElem?_set]
  by_cases e : i = j
  · subst e; rw [if_pos rfl, if_pos h, if_pos rfl]; rfl
  · rw [if_neg e, if_neg (fun x => e x.symm), ← List.getD_eq_getElem?_getD]
theorem rd_app (l : List Int) (v : Int) (j : Nat) : rd (l ++ [v]) (j : Int) = if j < l.length then rd l (j : Int) else if j = l.length then v else 0 := by
  rw [rd_nat, rd_nat, List.getD_eq_getElem?_getD, List.getD_eq_getElem?_getD, List.getElem?_append]
  by_cases h : j < l.length
  · rw [if_pos h, if_pos h]
  · rw [if_neg h, if_neg h]
    by_cases e : j = l.length
    · subst e; rw [if_pos rfl]; simp
    · rw [if_neg e, List.getElem?_eq_none (by simp; omega)]; rfl
theorem rd_take (l : List Int) (n j : Nat) (h : j < n) : rd (l.take n) (j : Int) = rd l (j : Int) := by
  rw [rd_nat, rd_nat, List.getD_eq_getElem?_getD, List.getElem?_take, if_pos h, ← List.getD_eq_getElem?_getD]
theorem rd_ext {a b : List Int} (hl : a.length = b.length) (h : ∀ j : Nat, j < a.length → rd a (j : Int) = rd b (j : Int)) : a = b := by
  refine List.ext_getElem hl fun j h1 h2 => ?_
  have := h j h1
  rw [rd_nat, rd_nat, List.getD_eq_getElem?_getD, List.getD_eq_getElem?_getD, List.getElem?_eq_getElem h1, List.getElem?_eq_getElem h2] at this
  exact this
theorem rd_out (l : List Int) (j : Nat) (h : l.length ≤ j) : rd l (j : Int) = 0 := by
  rw [rd_nat, List.getD_eq_getElem?_getD, List.getElem?_eq_none h]; rfl
theorem rd_mem {l : List Int} {j : Nat} (h : j < l.length) : rd l (j : Int) ∈ l := by
  rw [rd_nat, List.getD_eq_getElem?_getD, List.getElem?_eq_getElem h]; exact List.getElem_mem h
theorem rd_repl (n j : Nat) : rd (List.replicate n (0 : Int)) (j : Int) = 0 := by
  rw [rd_nat, List.getD_eq_getElem?_getD, List.getElem?_replicate]; split <;> rfl
/-- A row out of a function. -/
def tab (n : Nat) (f : Nat → Int) : List Int := (List.range n).map f
theorem tab_len (n : Nat) (f : Nat → Int) : (tab n f).length = n := by simp [tab]
theorem rd_tab (n : Nat) (f : Nat → Int) (i : Nat) (h : i < n) : rd (tab n f) (i : Int) = f i := by
  rw [rd_nat, List.getD_eq_getElem?_getD]
  unfold tab
  rw [List.getElem?_map, List.getElem?_range h]; rfl
theorem eq_tab {l : List Int} {n : Nat} {f : Nat → Int} (hl : l.length = n) (h : ∀ i : Nat, i < n → rd l (i : Int) = f i) : l = tab n f :=
  rd_ext (by rw [tab_len, hl]) (fun j hj => by rw [h j (by omega), rd_tab n f j (by omega)])
theorem tab_congr {n : Nat} {f g : Nat → Int} (h : ∀ i, i < n → f i = g i) : tab n f = tab n g :=
  eq_tab (tab_len n f) (fun i hi => by rw [rd_tab n f i hi, h i hi])
def up (A : Nat → Int) (k : Nat) (x : Int) : Nat → Int := fun i => if i = k then x else A i

theorem up_lt (A : Nat → Int) (k : Nat) (x : Int) (i : Nat) (h : i ≠ k) : up A k x i = A i := by unfold up; rw [if_neg h]
theorem up_at (A : Nat → Int) (k : Nat) (x : Int) : up A k x k = x := by unfold up; rw [if_pos rfl]
/-- Who is served by a rule, of the first ones. -/
def pk (l : List S42) (lf : Nat → Int) (t r : Int) : Nat → Int
  | 0 => -1
  | i + 1 => if cc l i > t ∨ lf i = 0 then pk l lf t r i
    else if pk l lf t r i < 0 ∨ r = 1 ∨ (r = 2 ∧ lf i < lf (pk l lf t r i).toNat) ∨ (r = 3 ∧ lf i > lf (pk l lf t r i).toNat) then (i : Int) else pk l lf t r i
theorem pk_in (l : List S42) (lf : Nat → Int) (t r : Int) : ∀ i : Nat, -1 ≤ pk l lf t r i ∧ pk l lf t r i < (i : Int)
  | 0 => by simp [pk]
  | i + 1 => by
    have := pk_in l lf t r i
    simp only [pk]; split
    · omega
    · split <;> omega
theorem pk_there (l : List S42) (lf : Nat → Int) (t r : Int) : ∀ i j : Nat, pk l lf t r i = (j : Int) → cc l j ≤ t ∧ lf j ≠ 0
  | 0, j, h => by simp only [pk] at h; omega
  | i + 1, j, h => by
    simp only [pk] at h
    by_cases c : cc l i > t ∨ lf i = 0
    · rw [if_pos c] at h; exact pk_there l lf t r i j h
    · rw [if_neg c] at h
      split at h
      · obtain rfl : i = j := by omega
        exact ⟨by omega, fun e => c (.inr e)⟩
      · exact pk_there l lf t r i j h
theorem pk_none (l : List S42) (lf : Nat → Int) (t r : Int) : ∀ i : Nat, pk l lf t r i < 0 → ∀ j, j < i → cc l j > t ∨ lf j = 0
  | i + 1, h, j, hj => by
    simp only [pk] at h
    by_cases c : cc l i > t ∨ lf i = 0
    · rw [if_pos c] at h
      by_cases e : j = i
      · exact e ▸ c
      · exact pk_none l lf t r i h j (by omega)
    · rw [if_neg c] at h
      split at h
      · omega
      · rename_i hc; exact absurd (.inl h) hc
theorem pk_congr (l : List S42) {lf lg : Nat → Int} (t r : Int) : ∀ i : Nat, (∀ j, j < i → lf j = lg j) → pk l lf t r i = pk l lg t r i
  | 0, _ => rfl
  | i + 1, h => by
    have e := pk_congr l t r i (fun j hj => h j (by omega))
    have b := pk_in l lg t r i
    simp only [pk]
    rw [e, h i (by omega)]
    by_cases c : pk l lg t r i < 0
    · simp only [c, true_or, if_true]
    · rw [h (pk l lg t r i).toNat (by omega)]
/-- What is left at the time t by a rule. -/
def lfs (l : List S42) (r : Int) : Nat → Nat → Int
  | 0 => pp l
  | t + 1 => if pk l (lfs l r t) (t : Int) r l.length ≥ 0 then up (lfs l r t) (pk l (lfs l r t) (t : Int) r l.length).toNat (lfs l r t (pk l (lfs l r t) (t : Int) r l.length).toNat - 1) else lfs l r t
/-- Who is served in the unit t by a rule. -/
def ow (l : List S42) (r : Int) (t : Nat) : Int := pk l (lfs l r t) (t : Int) r l.length
theorem lfs_pos {l : List S42} {r : Int} {t w : Nat} (h : ow l r t = (w : Int)) : lfs l r (t + 1) = up (lfs l r t) w (lfs l r t w - 1) := by
  have h' : pk l (lfs l r t) (t : Int) r l.length = (w : Int) := h
  simp only [lfs]
  rw [h', if_pos (by omega), Int.toNat_natCast]
theorem lfs_neg {l : List S42} {r : Int} {t : Nat} (h : ow l r t < 0) : lfs l r (t + 1) = lfs l r t := by
  have h' : pk l (lfs l r t) (t : Int) r l.length < 0 := h
  simp only [lfs]
  rw [if_neg (by omega)]
theorem lfs_in {l : List S42} (h : COK l) (r : Int) : ∀ (t i : Nat), i < l.length → 0 ≤ lfs l r t i ∧ lfs l r t i ≤ pp l i
  | 0, i, hi => by have := pp_in h hi; simp only [lfs]; omega
  | t + 1, i, hi => by
    have a := lfs_in h r t i hi
    by_cases c : ow l r t < 0
    · rw [lfs_neg c]; exact a
    · obtain ⟨w, hw⟩ := Int.eq_ofNat_of_zero_le (show 0 ≤ ow l r t by omega)
      rw [lfs_pos hw]
      have b := pk_there l (lfs l r t) (t : Int) r l.length w hw
      unfold up
      split
      · rename_i e; subst e; omega
      · exact a
/-- The time of coming, and what this one and all behind need. -/
def llAt (l : List S42) (i : Nat) : Int := cc l i + (sg (pp l) l.length - sg (pp l) i)
def LLa (l : List S42) : Nat → Int
  | 0 => 0
  | i + 1 => mx (LLa l i) (llAt l i)
/-- The least time at which all may be served. -/
def LLV (l : List S42) : Int := LLa l l.length
theorem pn_in {l : List S42} (h : COK l) (i : Nat) (hi : i ≤ l.length) : (i : Int) ≤ sg (pp l) i ∧ sg (pp l) i ≤ 9 * (i : Int) := by
  have := sg_in (f := pp l) (A := 1) (B := 9) i (fun j hj => pp_in h (by omega))
  omega
theorem pn_split (l : List S42) (i : Nat) (hi : i ≤ l.length) : sg (pp l) l.length = sg (pp l) i + sg (fun j => pp l (i + j)) (l.length - i) := by
  have := sg_split (pp l) i (l.length - i)
  rw [show i + (l.length - i) = l.length by omega] at this
  exact this
theorem llAt_in {l : List S42} (h : COK l) (i : Nat) (hi : i < l.length) : 0 ≤ llAt l i ∧ llAt l i ≤ 132 := by
  have n := clen h
  have c := cc_in h hi
  have s := pn_split l i (by omega)
  have b := sg_in (f := fun j => pp l (i + j)) (A := 1) (B := 9) (l.length - i) (fun j hj => pp_in h (by omega))
  unfold llAt; omega
theorem LLa_in {l : List S42} (h : COK l) : ∀ i : Nat, i ≤ l.length → 0 ≤ LLa l i ∧ LLa l i ≤ 132
  | 0, _ => by simp [LLa]
  | i + 1, hi => by
    have a := LLa_in h i (by omega)
    have b := llAt_in h i (by omega)
    simp only [LLa, mx]; split <;> omega
theorem LLV_in {l : List S42} (h : COK l) : 0 ≤ LLV l ∧ LLV l ≤ 132 := LLa_in h l.length (Nat.le_refl _)
theorem LLa_ge (l : List S42) : ∀ (n i : Nat), i < n → llAt l i ≤ LLa l n
  | n + 1, i, hi => by
    have m := le_mx (a := LLa l n) (b := llAt l n)
    show llAt l i ≤ mx (LLa l n) (llAt l n)
    by_cases e : i = n
    · subst e; omega
    · have := LLa_ge l n i (by omega)
      omega
theorem LLa_le {l : List S42} {M : Int} (h0 : 0 ≤ M) : ∀ n : Nat, (∀ i, i < n → llAt l i ≤ M) → LLa l n ≤ M
  | 0, _ => h0
  | n + 1, h => mx_le.2 ⟨LLa_le h0 n (fun i hi => h i (by omega)), h n (by omega)⟩
/-- The order by a rule. -/
def ORDL (l : List S42) (r : Int) : List Int := tab (LLV l).toNat (ow l r)
/-- What OrderBy answers. -/
noncomputable def ORDV (l : List S42) (r : Int) : List Int := @ite _ (COK l ∧ 0 ≤ r ∧ r ≤ 3) (Classical.propDecidable _) (ORDL l r) []
theorem ORDV_pos {l : List S42} {r : Int} (h : COK l) (h0 : 0 ≤ r) (h1 : r ≤ 3) : ORDV l r = ORDL l r := by unfold ORDV; exact if_pos ⟨h, h0, h1⟩
theorem ORDV_neg {l : List S42} {r : Int} (h : ¬(COK l ∧ 0 ≤ r ∧ r ≤ 3)) : ORDV l r = [] := by unfold ORDV; exact if_neg h
theorem ORDV_len (l : List S42) (r : Int) : (ORDV l r).length ≤ 132 := by
  by_cases h : COK l ∧ 0 ≤ r ∧ r ≤ 3
  · rw [ORDV_pos h.1 h.2.1 h.2.2]
    unfold ORDL
    rw [tab_len]
    have := LLV_in h.1
    omega
  · rw [ORDV_neg h]; simp
theorem ord_snoc {l : List S42} {r : Int} {o : List Int} (h : ∀ j : Nat, j < o.length → rd o (j : Int) = ow l r j) (w : Int) (hw : ow l r o.length = w) : ∀ j : Nat, j < (o ++ [w]).length → rd (o ++ [w]) (j : Int) = ow l r j := by
  intro j hj
  rw [rd_app]
  by_cases e : j < o.length
  · rw [if_pos e]; exact h j e
  · have ej : j = o.length := by simp at hj; omega
    rw [if_neg e, if_pos ej, ej, hw]
theorem lfs_row {l : List S42} {r : Int} {t w : Nat} {x : List Int} (hw : ow l r t = (w : Int)) (hx : x.length = l.length) (hwl : w < l.length) (h : ∀ i : Nat, i < l.length → rd x (i : Int) = lfs l r t i) :
    ∀ i : Nat, i < l.length → rd (x.set w (lfs l r t w - 1)) (i : Int) = lfs l r (t + 1) i := by
  intro i hi
  rw [rd_set _ _ _ _ (by omega), lfs_pos hw]
  unfold up
  by_cases e : i = w
  · rw [if_pos e, if_pos e]
  · rw [if_neg e, if_neg e]; exact h i hi
/-- How often i is served in the first t units. -/
def cnt (o : List Int) (i : Int) : Nat → Int
  | 0 => 0
  | t + 1 => cnt o i t + if rd o (t : Int) = i then 1 else 0
/-- The end of the last unit of i in the first t units. -/
def lst (o : List Int) (i : Int) : Nat → Int
  | 0 => 0
  | t + 1 => if rd o (t : Int) = i then (t : Int) + 1 else lst o i t
theorem cnt_mono (o : List Int) (i : Int) (s : Nat) : ∀ t : Nat, s ≤ t → cnt o i s ≤ cnt o i t
  | 0, h => by obtain rfl : s = 0 := by omega
               exact Int.le_refl _
  | t + 1, h => by
    by_cases e : s = t + 1
    · subst e; exact Int.le_refl _
    · have := cnt_mono o i s t (by omega)
      simp only [cnt]; split <;> omega
theorem cnt_in (o : List Int) (i : Int) (t : Nat) : 0 ≤ cnt o i t ∧ cnt o i t ≤ (t : Int) := by
  induction t with
  | zero => simp [cnt]
  | succ t ih => simp only [cnt]; split <;> omega
theorem lst_in (o : List Int) (i : Int) (t : Nat) : 0 ≤ lst o i t ∧ lst o i t ≤ (t : Int) := by
  induction t with
  | zero => simp [lst]
  | succ t ih => simp only [lst]; split <;> omega
/-- It ends behind s exactly if it is served behind s. -/
theorem lst_gt (o : List Int) (i : Int) (s : Nat) : ∀ t : Nat, s ≤ t → (lst o i t > (s : Int) ↔ cnt o i s < cnt o i t)
  | 0, h => by
    obtain rfl : s = 0 := by omega
    simp [lst]
  | t + 1, h => by
    by_cases e : s = t + 1
    · subst e
      have := lst_in o i (t + 1)
      constructor
      · intro h; omega
      · intro h; omega
    · have ih := lst_gt o i s t (by omega)
      have m := cnt_mono o i s t (by omega)
      simp only [lst, cnt]
      by_cases c : rd o (t : Int) = i
      · rw [if_pos c, if_pos c]; omega
      · rw [if_neg c, if_neg c]; omega
/-- Where the last unit ends. -/
theorem lst_of {o : List Int} {i : Int} {e t : Nat} (h0 : cnt o i e < cnt o i (e + 1)) (h1 : cnt o i t = cnt o i (e + 1)) (ht : e + 1 ≤ t) : lst o i t = (e : Int) + 1 := by
  have a := (lst_gt o i e t (by omega)).2 (by omega)
  have b := lst_gt o i (e + 1) t ht
  have c : ¬ (lst o i t > ((e + 1 : Nat) : Int)) := fun h => by have := b.1 h; omega
  omega
/-- An order. -/
def OOK (l : List S42) (o : List Int) : Prop :=
  COK l ∧ (o.length : Int) ≤ 200 ∧ (∀ t : Nat, t < o.length → (-1 ≤ rd o (t : Int) ∧ rd o (t : Int) < (l.length : Int)) ∧ (0 ≤ rd o (t : Int) → cc l (rd o (t : Int)).toNat ≤ (t : Int))) ∧
    ∀ i : Nat, i < l.length → cnt o (i : Int) o.length = pp l i
/-- Each is there as long as needed, at least. -/
theorem lst_come {l : List S42} {o : List Int} (h : OOK l o) (i : Nat) : ∀ t : Nat, t ≤ o.length → (cnt o (i : Int) t = 0 ∧ lst o (i : Int) t = 0) ∨ (cc l i + cnt o (i : Int) t ≤ lst o (i : Int) t)
  | 0, _ => .inl ⟨rfl, rfl⟩
  | t + 1, ht => by
    have ih := lst_come h i t (by omega)
    have b := lst_in o (i : Int) t
    simp only [cnt, lst]
    by_cases c : rd o (t : Int) = (i : Int)
    · have a := (h.2.2.1 t (by omega)).2 (by omega)
      rw [c, Int.toNat_natCast] at a
      rw [if_pos c, if_pos c]
      omega
    · rw [if_neg c, if_neg c]
      omega
theorem lst_need {l : List S42} {o : List Int} (h : OOK l o) {i : Nat} (hi : i < l.length) : cc l i + pp l i ≤ lst o (i : Int) o.length ∧ lst o (i : Int) o.length ≤ (o.length : Int) := by
  have a := lst_come h i o.length (Nat.le_refl _)
  have b := h.2.2.2 i hi
  have c := pp_in h.1 hi
  have d := lst_in o (i : Int) o.length
  omega
theorem ORDL_len (l : List S42) (r : Int) : (ORDL l r).length = (LLV l).toNat := tab_len _ _
theorem rd_ORDL (l : List S42) (r : Int) (t : Nat) (h : (t : Int) < LLV l) : rd (ORDL l r) (t : Int) = ow l r t := rd_tab _ _ _ (by omega)
theorem ow_in (l : List S42) (r : Int) (t : Nat) : -1 ≤ ow l r t ∧ ow l r t < (l.length : Int) := pk_in l (lfs l r t) (t : Int) r l.length
theorem ow_there {l : List S42} (h : COK l) {r : Int} {t w : Nat} (hw : ow l r t = (w : Int)) : w < l.length ∧ cc l w ≤ (t : Int) ∧ 0 < lfs l r t w := by
  have a := ow_in l r t
  have b := pk_there l (lfs l r t) (t : Int) r l.length w hw
  have c := lfs_in h r t w (by omega)
  have := b.2
  omega
theorem ow_none {l : List S42} {r : Int} {t : Nat} (hw : ow l r t < 0) (j : Nat) (hj : j < l.length) : cc l j > (t : Int) ∨ lfs l r t j = 0 := pk_none l (lfs l r t) (t : Int) r l.length hw j hj
/-- One unit of a rule. -/
theorem lfs_step {l : List S42} (r : Int) (t i : Nat) : lfs l r (t + 1) i = lfs l r t i - if ow l r t = (i : Int) then 1 else 0 := by
  by_cases c : ow l r t < 0
  · rw [lfs_neg c, if_neg (by omega)]; omega
  · obtain ⟨w, hw⟩ := Int.eq_ofNat_of_zero_le (show 0 ≤ ow l r t by omega)
    rw [lfs_pos hw, hw]
    unfold up
    by_cases e : i = w
    · rw [if_pos e, if_pos (by rw [e]), e]
    · rw [if_neg e, if_neg (by omega)]; omega
theorem lfs_anti {l : List S42} (r : Int) (i s : Nat) : ∀ t : Nat, s ≤ t → lfs l r t i ≤ lfs l r s i
  | 0, h => by obtain rfl : s = 0 := by omega
               exact Int.le_refl _
  | t + 1, h => by
    by_cases e : s = t + 1
    · subst e; exact Int.le_refl _
    · have := lfs_anti (l := l) r i s t (by omega)
      rw [lfs_step]; split <;> omega
/-- Nobody is served before coming. -/
theorem lfs_early {l : List S42} (h : COK l) (r : Int) (i : Nat) (hi : i < l.length) : ∀ t : Nat, (t : Int) ≤ cc l i → lfs l r t i = pp l i
  | 0, _ => rfl
  | t + 1, ht => by
    have a := lfs_early h r i hi t (by omega)
    rw [lfs_step, a]
    by_cases c : ow l r t = (i : Int)
    · have := ow_there h c
      omega
    · rw [if_neg c]; omega
theorem cnt_ORDL (l : List S42) (r : Int) (i : Nat) : ∀ t : Nat, (t : Int) ≤ LLV l → cnt (ORDL l r) (i : Int) t = pp l i - lfs l r t i
  | 0, _ => by simp only [cnt, lfs]; omega
  | t + 1, ht => by
    have a := cnt_ORDL l r i t (by omega)
    simp only [cnt]
    rw [rd_ORDL l r t (by omega), a, lfs_step]
    omega
theorem first_late (l : List S42) (t : Int) : ∀ n : Nat, (∀ i, i < n → cc l i ≤ t) ∨ ∃ k, k < n ∧ cc l k > t ∧ ∀ i, i < k → cc l i ≤ t
  | 0 => .inl (fun i hi => by omega)
  | n + 1 => by
    rcases first_late l t n with h | ⟨k, h1, h2, h3⟩
    · by_cases c : cc l n ≤ t
      · refine .inl (fun i hi => ?_)
        by_cases e : i = n
        · exact e ▸ c
        · exact h i (by omega)
      · exact .inr ⟨n, by omega, by omega, h⟩
    · exact .inr ⟨k, by omega, h2, h3⟩
theorem left_sum {l : List S42} (h : COK l) (r : Int) : ∀ t : Nat, (t : Int) ≤ LLV l → sg (lfs l r t) l.length ≤ LLV l - t
  | 0, _ => by
    have n0 : sg (lfs l r 0) l.length = sg (pp l) l.length := rfl
    by_cases e : l.length = 0
    · rw [n0, e]
      have := LLV_in h
      simp only [sg]; omega
    · have a := LLa_ge l l.length 0 (by omega)
      have b := cc_in h (i := 0) (by omega)
      have c : llAt l 0 = cc l 0 + (sg (pp l) l.length - sg (pp l) 0) := rfl
      have d : sg (pp l) 0 = 0 := rfl
      have e : LLV l = LLa l l.length := rfl
      omega
  | t + 1, ht => by
    have ih := left_sum h r t (by omega)
    by_cases c : ow l r t < 0
    · rw [lfs_neg c]
      rcases first_late l (t : Int) l.length with f | ⟨k, h1, h2, h3⟩
      · have z : sg (lfs l r t) l.length = 0 := (sg_congr _ (fun i hi => by have := ow_none c i hi; have := f i hi; show lfs l r t i = 0; omega)).trans (sg_zero _)
        omega
      · have s1 := sg_split (lfs l r t) k (l.length - k)
        rw [show k + (l.length - k) = l.length by omega] at s1
        have z : sg (lfs l r t) k = 0 := (sg_congr _ (fun i hi => by have := ow_none c i (by omega); have := h3 i hi; show lfs l r t i = 0; omega)).trans (sg_zero _)
        have s2 := pn_split l k (by omega)
        have s3 := sg_le (f := fun i => lfs l r t (k + i)) (g := fun i => pp l (k + i)) (l.length - k) (fun i hi => (lfs_in h r t (k + i) (by omega)).2)
        have a := LLa_ge l l.length k h1
        have b : llAt l k = cc l k + (sg (pp l) l.length - sg (pp l) k) := rfl
        have e : LLV l = LLa l l.length := rfl
        omega
    · obtain ⟨w, hw⟩ := Int.eq_ofNat_of_zero_le (show 0 ≤ ow l r t by omega)
      have wi := ow_there h hw
      have u := sg_unit w 1 l.length
      rw [if_pos wi.1] at u
      have s := sg_sub (lfs l r t) (fun i => if i = w then 1 else 0) l.length
      have e : sg (lfs l r (t + 1)) l.length = sg (fun i => lfs l r t i - if i = w then 1 else 0) l.length := sg_congr _ (fun i hi => by
        rw [lfs_step, hw]
        by_cases e : i = w
        · rw [if_pos e, if_pos (by rw [e])]
        · rw [if_neg e, if_neg (by omega)])
      rw [e, s, u]; omega
theorem lfs_end {l : List S42} (h : COK l) (r : Int) (i : Nat) (hi : i < l.length) : lfs l r (LLV l).toNat i = 0 := by
  have lv := LLV_in h
  have a := left_sum h r (LLV l).toNat (by omega)
  have b := lfs_in h r (LLV l).toNat i hi
  have c := sg_mem l.length i hi (fun j hj => (lfs_in h r (LLV l).toNat j hj).1)
  omega
/-- The orders by the rules are orders. -/
theorem ORDL_ok {l : List S42} (h : COK l) (r : Int) : OOK l (ORDL l r) := by
  have lv := LLV_in h
  have len := ORDL_len l r
  refine ⟨h, by omega, fun t ht => ?_, fun i hi => ?_⟩
  · rw [rd_ORDL l r t (by omega)]
    refine ⟨ow_in l r t, fun c => ?_⟩
    obtain ⟨w, hw⟩ := Int.eq_ofNat_of_zero_le c
    rw [hw, Int.toNat_natCast]
    exact (ow_there h hw).2.1
  · rw [len, cnt_ORDL l r i _ (by omega), lfs_end h r i hi]; omega
/-- The end, told by what is left. -/
theorem lst_ORDL {l : List S42} (h : COK l) (r : Int) (i : Nat) (hi : i < l.length) (e : Nat) (h0 : 0 < lfs l r e i) (h1 : lfs l r (e + 1) i = 0) : lst (ORDL l r) (i : Int) (ORDL l r).length = (e : Int) + 1 := by
  have lv := LLV_in h
  have len := ORDL_len l r
  have le : (e : Int) < LLV l := by
    apply Classical.byContradiction
    intro c
    have a := lfs_anti (l := l) r i (LLV l).toNat e (by omega)
    have b := lfs_end h r i hi
    omega
  have c0 := cnt_ORDL l r i e (by omega)
  have c1 := cnt_ORDL l r i (e + 1) (by omega)
  have c2 := (ORDL_ok h r).2.2.2 i hi
  exact lst_of (by omega) (by omega) (by omega)
/-- The end of what goes on at j with the end E. -/
def pe (l : List S42) : Nat → Nat → Int → Int
  | 0, _, E => E
  | d + 1, j, E => if cc l j < E then pe l d (j + 1) (E + pp l j) else E
/-- The end of the period of customer i. -/
def PEND (l : List S42) (i : Nat) : Int := pe l (l.length - 1 - i) (i + 1) (cc l i + pp l i)
theorem pe_in {l : List S42} (h : COK l) : ∀ (d j : Nat) (E : Int), j + d = l.length → E ≤ pe l d j E ∧ pe l d j E ≤ E + 9 * (d : Int)
  | 0, j, E, _ => by simp [pe]
  | d + 1, j, E, hj => by
    have p := pp_in h (i := j) (by omega)
    simp only [pe]
    split
    · have := pe_in h d (j + 1) (E + pp l j) (by omega)
      omega
    · omega
theorem PEND_in {l : List S42} (h : COK l) {i : Nat} (hi : i < l.length) : cc l i + pp l i ≤ PEND l i ∧ PEND l i ≤ 200 := by
  have a := pe_in h (l.length - 1 - i) (i + 1) (cc l i + pp l i) (by omega)
  have := cc_in h hi; have := pp_in h hi; have := clen h
  unfold PEND; omega
theorem pe_mono {l : List S42} (h : COK l) : ∀ (d j : Nat) (E E' : Int), j + d = l.length → E ≤ E' → pe l d j E ≤ pe l d j E'
  | 0, j, E, E', _, he => he
  | d + 1, j, E, E', hj, he => by
    have p := pp_in h (i := j) (by omega)
    simp only [pe]
    by_cases c : cc l j < E
    · rw [if_pos c, if_pos (by omega)]
      exact pe_mono h d (j + 1) _ _ (by omega) (by omega)
    · rw [if_neg c]
      split
      · have := (pe_in h d (j + 1) (E' + pp l j) (by omega)).1
        omega
      · exact he
theorem pe_within {l : List S42} (h : COK l) (a : Nat) (ha : a < l.length) : ∀ (d m : Nat) (E : Int), m + d = l.length → m ≤ a → cc l a < pe l d m E → PEND l a ≤ pe l d m E
  | 0, m, E, hm, hma, _ => by omega
  | d + 1, m, E, hm, hma, hlt => by
    have c1 := cc_mono h a m hma ha
    simp only [pe] at hlt ⊢
    by_cases c : cc l m < E
    · rw [if_pos c] at hlt ⊢
      by_cases e : m = a
      · subst e
        have := pe_mono h (l.length - 1 - m) (m + 1) (cc l m + pp l m) (E + pp l m) (by omega) (by omega)
        rw [show d = l.length - 1 - m by omega]
        exact this
      · exact pe_within h a ha d (m + 1) _ (by omega) (by omega) hlt
    · rw [if_neg c] at hlt; omega
/-- Periods are within each other. -/
theorem PEND_within {l : List S42} (h : COK l) {j a : Nat} (hj : j < a) (ha : a < l.length) (hlt : cc l a < PEND l j) : PEND l a ≤ PEND l j :=
  pe_within h a ha (l.length - 1 - j) (j + 1) _ (by omega) (by omega) hlt
/-- The customer k, and those behind who come before u: f of all, added. -/
def behind (l : List S42) (k : Nat) (u : Int) (f : Nat → Int) : Int := sg (fun i => if i = k ∨ (k < i ∧ cc l i < u) then f i else 0) l.length
theorem sg_range (f : Nat → Int) (a b : Nat) (hab : a ≤ b) : ∀ n : Nat, b ≤ n → sg (fun i => if a ≤ i ∧ i < b then f i else 0) n = sg f b - sg f a
  | 0, h => by
    obtain rfl : b = 0 := by omega
    obtain rfl : a = 0 := by omega
    simp [sg]
  | n + 1, h => by
    simp only [sg]
    by_cases e : b = n + 1
    · subst e
      have z : ∀ m : Nat, m ≤ n → sg (fun i => if a ≤ i ∧ i < n + 1 then f i else 0) m = if a ≤ m then sg f m - sg f a else 0 := by
        intro m
        induction m with
        | zero =>
          intro _
          by_cases c : a = 0
          · subst c; simp [sg]
          · rw [if_neg (by omega)]; rfl
        | succ m ih =>
          intro hm
          simp only [sg]
          rw [ih (by omega)]
          by_cases c1 : a ≤ m
          · rw [if_pos c1, if_pos ⟨c1, by omega⟩, if_pos (by omega)]; omega
          · rw [if_neg c1, if_neg (by omega)]
            by_cases c2 : a ≤ m + 1
            · obtain rfl : a = m + 1 := by omega
              rw [if_pos c2]; simp only [sg]; omega
            · rw [if_neg c2]; rfl
      rw [z n (Nat.le_refl _)]
      by_cases c1 : a ≤ n
      · rw [if_pos c1, if_pos ⟨c1, by omega⟩]; simp only [sg]; omega
      · obtain rfl : a = n + 1 := by omega
        rw [if_neg c1, if_neg (by omega)]; simp only [sg]; omega
    · rw [sg_range f a b hab n (by omega), if_neg (by omega)]; omega
theorem behind_pp {l : List S42} {k j : Nat} {u : Int} (hk : k < j) (hj : j ≤ l.length) (h1 : ∀ i, k < i → i < j → cc l i < u) (h2 : ∀ i, j ≤ i → i < l.length → u ≤ cc l i) : behind l k u (pp l) = sg (pp l) j - sg (pp l) k := by
  rw [← sg_range (pp l) k j (by omega) l.length hj]
  refine sg_congr _ (fun i hi => ?_)
  by_cases c : k ≤ i ∧ i < j
  · rw [if_pos c, if_pos]
    by_cases e : i = k
    · exact .inl e
    · exact .inr ⟨by omega, h1 i (by omega) c.2⟩
  · rw [if_neg c, if_neg]
    rintro (e | ⟨e1, e2⟩)
    · omega
    · have := h2 i (by omega) hi
      omega
theorem pe_behind {l : List S42} (h : COK l) (k : Nat) : ∀ (d j : Nat) (u : Int), j + d = l.length → k < j → (∀ i, k < i → i < j → cc l i < u) →
    (u < pe l d j (cc l k + (sg (pp l) j - sg (pp l) k)) → u < cc l k + behind l k u (pp l)) ∧ (u = pe l d j (cc l k + (sg (pp l) j - sg (pp l) k)) → u = cc l k + behind l k u (pp l))
  | 0, j, u, hj, hk, hu => by
    rw [behind_pp hk (by omega) hu (fun i h1 h2 => by omega)]
    exact ⟨fun a => a, fun a => a⟩
  | d + 1, j, u, hj, hk, hu => by
    have late : u ≤ cc l j → behind l k u (pp l) = sg (pp l) j - sg (pp l) k := fun c => behind_pp hk (by omega) hu (fun i h1 h2 => by have := cc_mono h i j h1 h2; omega)
    simp only [pe]
    by_cases c : cc l j < cc l k + (sg (pp l) j - sg (pp l) k)
    · rw [if_pos c]
      by_cases c2 : cc l j < u
      · have ih := pe_behind h k d (j + 1) u (by omega) (by omega) (fun i h1 h2 => by
          by_cases e : i = j
          · exact e ▸ c2
          · exact hu i h1 (by omega))
        have e : cc l k + (sg (pp l) (j + 1) - sg (pp l) k) = cc l k + (sg (pp l) j - sg (pp l) k) + pp l j := by
          show cc l k + (sg (pp l) j + pp l j - sg (pp l) k) = _
          omega
        rw [e] at ih
        exact ih
      · have e := late (by omega)
        have p := pe_in h d (j + 1) (cc l k + (sg (pp l) j - sg (pp l) k) + pp l j) (by omega)
        have q := pp_in h (i := j) (by omega)
        exact ⟨fun _ => by omega, fun a => by omega⟩
    · rw [if_neg c]
      constructor
      · intro a
        have e := late (by omega)
        omega
      · intro a
        have e := late (by omega)
        omega
theorem PEND_behind {l : List S42} (h : COK l) {k : Nat} (hk : k < l.length) (u : Int) : (u < PEND l k → u < cc l k + behind l k u (pp l)) ∧ (u = PEND l k → u = cc l k + behind l k u (pp l)) := by
  have := pe_behind h k (l.length - 1 - k) (k + 1) u (by omega) (by omega) (fun i h1 h2 => by omega)
  have e : cc l k + (sg (pp l) (k + 1) - sg (pp l) k) = cc l k + pp l k := by
    show cc l k + (sg (pp l) k + pp l k - sg (pp l) k) = _
    omega
  rw [e] at this
  exact this
theorem pk_greatest1 (l : List S42) (lf : Nat → Int) (t : Int) : ∀ m w : Nat, pk l lf t 1 m = (w : Int) → ∀ j, w < j → j < m → cc l j > t ∨ lf j = 0
  | 0, w, h, j, _, hj => by omega
  | m + 1, w, h, j, hwj, hj => by
    simp only [pk] at h
    by_cases c : cc l m > t ∨ lf m = 0
    · rw [if_pos c] at h
      by_cases e : j = m
      · exact e ▸ c
      · exact pk_greatest1 l lf t m w h j hwj (by omega)
    · rw [if_neg c, if_pos (by simp)] at h
      omega
theorem behind_step {l : List S42} (h : COK l) {k : Nat} (hk : k < l.length) {u : Nat} (hu : cc l k ≤ (u : Int)) {w : Nat} (hw : ow l 1 u = (w : Int)) (hkw : k ≤ w) :
    behind l k ((u + 1 : Nat) : Int) (lfs l 1 (u + 1)) = behind l k (u : Int) (lfs l 1 u) + behind l k ((u + 1 : Nat) : Int) (pp l) - behind l k (u : Int) (pp l) - 1 := by
  have wi := ow_there h hw
  have un := sg_unit w 1 l.length
  rw [if_pos wi.1] at un
  have s : ∀ a b c d : Nat → Int, sg (fun i => a i + b i - c i - d i) l.length = sg a l.length + sg b l.length - sg c l.length - sg d l.length := by
    intro a b c d
    rw [sg_sub (fun i => a i + b i - c i) d, sg_sub (fun i => a i + b i) c, sg_add a b]
  have e := s (fun i => if i = k ∨ (k < i ∧ cc l i < (u : Int)) then lfs l 1 u i else 0) (fun i => if i = k ∨ (k < i ∧ cc l i < ((u + 1 : Nat) : Int)) then pp l i else 0) (fun i => if i = k ∨ (k < i ∧ cc l i < (u : Int)) then pp l i else 0) (fun i => if i = w then 1 else 0)
  rw [un] at e
  unfold behind
  refine Eq.trans (sg_congr _ (fun i hi => ?_)) e
  rw [lfs_step, hw]
  by_cases c1 : i = k ∨ (k < i ∧ cc l i < (u : Int))
  · have c2 : i = k ∨ (k < i ∧ cc l i < ((u + 1 : Nat) : Int)) := by omega
    rw [if_pos c1, if_pos c2, if_pos c2, if_pos c1]
    by_cases e : i = w
    · rw [if_pos (by rw [e]), if_pos e]; omega
    · rw [if_neg (by omega), if_neg e]; omega
  · by_cases c2 : i = k ∨ (k < i ∧ cc l i < ((u + 1 : Nat) : Int))
    · have early := lfs_early h 1 i hi u (by omega)
      rw [if_neg c1, if_pos c2, if_pos c2, if_neg c1, early]
      by_cases e : i = w
      · rw [if_pos (by rw [e]), if_pos e]; omega
      · rw [if_neg (by omega), if_neg e]; omega
    · have ne : i ≠ w := by
        intro e
        subst e
        have := wi.2.1
        omega
      rw [if_neg c1, if_neg c2, if_neg c2, if_neg c1, if_neg ne]; omega
theorem behind_ge {l : List S42} (h : COK l) {k : Nat} (hk : k < l.length) (u : Int) (t : Nat) : lfs l 1 t k ≤ behind l k u (lfs l 1 t) := by
  have := sg_mem (f := fun i => if i = k ∨ (k < i ∧ cc l i < u) then lfs l 1 t i else 0) l.length k hk (fun j hj => by
    have := lfs_in h 1 t j hj
    show 0 ≤ if j = k ∨ (k < j ∧ cc l j < u) then lfs l 1 t j else 0
    split <;> omega)
  simp only [true_or, if_true] at this
  exact this
theorem lcfs_sum {l : List S42} (h : COK l) {k : Nat} (hk : k < l.length) : ∀ d u : Nat, (u : Int) = cc l k + d → (u : Int) ≤ PEND l k →
    behind l k (u : Int) (lfs l 1 u) = cc l k + behind l k (u : Int) (pp l) - u ∧ ((u : Int) < PEND l k → 0 < lfs l 1 u k) := by
  intro d
  induction d with
  | zero =>
    intro u hu hp
    have e := lfs_early h 1 k hk u (by omega)
    have p := pp_in h hk
    refine ⟨?_, fun _ => by omega⟩
    have one : ∀ f : Nat → Int, behind l k (u : Int) f = f k := by
      intro f
      unfold behind
      have un := sg_unit k (f k) l.length
      rw [if_pos hk] at un
      rw [← un]
      refine sg_congr _ (fun i hi => ?_)
      by_cases c : i = k
      · rw [if_pos (.inl c), if_pos c, c]
      · rw [if_neg c, if_neg]
        rintro (a | ⟨a, b⟩)
        · exact c a
        · have := cc_mono h i k (by omega) hi
          omega
    rw [one, one]; omega
  | succ d ih =>
    intro u hu hp
    obtain ⟨v, rfl⟩ : ∃ v, u = v + 1 := ⟨u - 1, by have := cc_in h hk; omega⟩
    have a := ih v (by omega) (by omega)
    have lv := a.2 (by omega)
    have cv : cc l k ≤ (v : Int) := by omega
    obtain ⟨w, hw, hkw⟩ : ∃ w : Nat, ow l 1 v = (w : Int) ∧ k ≤ w := by
      by_cases c : ow l 1 v < 0
      · have := ow_none c k hk; omega
      · obtain ⟨w, hw⟩ := Int.eq_ofNat_of_zero_le (show 0 ≤ ow l 1 v by omega)
        refine ⟨w, hw, ?_⟩
        apply Classical.byContradiction
        intro hc
        have := pk_greatest1 l (lfs l 1 v) (v : Int) l.length w hw k (by omega) hk
        omega
    have s := behind_step h hk cv hw hkw
    have sum : behind l k ((v + 1 : Nat) : Int) (lfs l 1 (v + 1)) = cc l k + behind l k ((v + 1 : Nat) : Int) (pp l) - ((v + 1 : Nat) : Int) := by
      rw [s, a.1]; omega
    refine ⟨sum, fun hlt => ?_⟩
    by_cases e : w = k
    · subst e
      have pb := (PEND_behind h hk ((v + 1 : Nat) : Int)).1 hlt
      have only : behind l w ((v + 1 : Nat) : Int) (lfs l 1 (v + 1)) = lfs l 1 (v + 1) w := by
        unfold behind
        have un := sg_unit w (lfs l 1 (v + 1) w) l.length
        rw [if_pos hk] at un
        rw [← un]
        refine sg_congr _ (fun i hi => ?_)
        by_cases c : i = w
        · rw [if_pos (.inl c), if_pos c, c]
        · rw [if_neg c]
          by_cases c2 : i = w ∨ (w < i ∧ cc l i < ((v + 1 : Nat) : Int))
          · rw [if_pos c2]
            have g := pk_greatest1 l (lfs l 1 v) (v : Int) l.length w hw i (by omega) hi
            have m := lfs_anti (l := l) 1 i v (v + 1) (by omega)
            have q := lfs_in h 1 (v + 1) i hi
            omega
          · rw [if_neg c2]
      omega
    · rw [lfs_step, hw, if_neg (by omega)]; omega
/-- By the last come, each is there for the period. -/
theorem lst_lcfs {l : List S42} (h : COK l) (k : Nat) (hk : k < l.length) : lst (ORDL l 1) (k : Int) (ORDL l 1).length = PEND l k := by
  have p := PEND_in h hk
  have c := cc_in h hk
  have q := pp_in h hk
  obtain ⟨e, he⟩ := Int.eq_ofNat_of_zero_le (show 0 ≤ PEND l k - 1 by omega)
  have a := lcfs_sum h hk (e - (cc l k).toNat) e (by omega) (by omega)
  have b := lcfs_sum h hk (e + 1 - (cc l k).toNat) (e + 1) (by omega) (by omega)
  have pb := (PEND_behind h hk ((e + 1 : Nat) : Int)).2 (by omega)
  have g := behind_ge h hk ((e + 1 : Nat) : Int) (e + 1)
  have z := lfs_in h 1 (e + 1) k hk
  have := lst_ORDL h 1 k hk e (a.2 (by omega)) (by omega)
  omega
/-- The need of the first n who come at the time t. -/
def arr (l : List S42) (t : Int) (n : Nat) : Int := sg (fun i => if cc l i = t then pp l i else 0) n
/-- The work ahead of the time t, without those who come at it. -/
def wk (l : List S42) : Nat → Int
  | 0 => 0
  | t + 1 => mx (wk l t + arr l (t : Int) l.length - 1) 0
/-- The work at the beginning of the time t. -/
def yk (l : List S42) (t : Nat) : Int := wk l t + arr l (t : Int) l.length
theorem arr_in {l : List S42} (h : COK l) (t : Int) (n : Nat) (hn : n ≤ l.length) : 0 ≤ arr l t n ∧ arr l t n ≤ 9 * (n : Int) := by
  have := sg_in (f := fun i => if cc l i = t then pp l i else 0) (A := 0) (B := 9) n (fun i hi => by
    have := pp_in h (i := i) (by omega)
    show 0 ≤ (if cc l i = t then pp l i else 0) ∧ (if cc l i = t then pp l i else 0) ≤ 9
    split <;> omega)
  unfold arr; omega
theorem wk_in {l : List S42} (h : COK l) : ∀ t : Nat, 0 ≤ wk l t ∧ wk l t ≤ 72 * (t : Int)
  | 0 => by simp [wk]
  | t + 1 => by
    have a := wk_in h t
    have b := arr_in h (t : Int) l.length (Nat.le_refl _)
    have n := clen h
    simp only [wk]
    unfold mx
    split <;> omega
theorem arr_none {l : List S42} (t : Int) (n : Nat) (h : ∀ i, i < n → cc l i ≠ t) : arr l t n = 0 := by
  unfold arr
  rw [sg_congr (g := fun _ => (0 : Int)) n (fun i hi => if_neg (h i hi)), sg_zero]
theorem arr_some {l : List S42} (h : COK l) (t : Int) (i : Nat) (hi : i < l.length) (he : cc l i = t) : 0 < arr l t l.length := by
  have := sg_mem (f := fun i => if cc l i = t then pp l i else 0) l.length i hi (fun j hj => by
    have := pp_in h hj
    show 0 ≤ if cc l j = t then pp l j else 0
    split <;> omega)
  have p := pp_in h hi
  simp only [he, if_true] at this
  unfold arr; omega
theorem behind_arr {l : List S42} (h : COK l) (h0 : 0 < l.length) (t : Nat) (ht : cc l 0 < (t : Int)) : behind l 0 ((t + 1 : Nat) : Int) (pp l) = behind l 0 (t : Int) (pp l) + arr l (t : Int) l.length := by
  unfold behind arr
  rw [← sg_add]
  refine sg_congr _ (fun i hi => ?_)
  by_cases z : i = 0
  · subst z
    rw [if_pos (.inl rfl), if_pos (.inl rfl), if_neg (by omega)]; omega
  · by_cases c : cc l i < (t : Int)
    · rw [if_pos (.inr ⟨by omega, by omega⟩), if_pos (.inr ⟨by omega, c⟩), if_neg (by omega)]; omega
    · by_cases e : cc l i = (t : Int)
      · rw [if_pos (.inr ⟨by omega, by omega⟩), if_neg (by omega), if_pos e]; omega
      · rw [if_neg (by omega), if_neg (by omega), if_neg e]; rfl
theorem behind_first {l : List S42} (h : COK l) (h0 : 0 < l.length) (t : Nat) (ht : cc l 0 = (t : Int)) : behind l 0 ((t + 1 : Nat) : Int) (pp l) = arr l (t : Int) l.length := by
  unfold behind arr
  refine sg_congr _ (fun i hi => ?_)
  have m := cc_mono h i 0 (by omega) hi
  by_cases c : cc l i = (t : Int)
  · rw [if_pos c, if_pos]
    by_cases z : i = 0
    · exact .inl z
    · exact .inr ⟨by omega, by omega⟩
  · rw [if_neg c, if_neg]
    rintro (z | ⟨_, z⟩)
    · subst z; exact c ht
    · omega
/-- Nobody has come. -/
theorem wk_early {l : List S42} (h : COK l) (h0 : 0 < l.length) : ∀ t : Nat, (t : Int) ≤ cc l 0 → wk l t = 0
  | 0, _ => rfl
  | t + 1, ht => by
    simp only [wk]
    rw [wk_early h h0 t (by omega), arr_none (t : Int) l.length (fun i hi => by have := cc_mono h i 0 (by omega) hi; omega)]
    decide
theorem yk_early {l : List S42} (h : COK l) (h0 : 0 < l.length) (t : Nat) (ht : (t : Int) < cc l 0) : yk l t = 0 := by
  unfold yk
  rw [wk_early h h0 t (by omega), arr_none (t : Int) l.length (fun i hi => by have := cc_mono h i 0 (by omega) hi; omega)]; rfl
theorem yk_first {l : List S42} (h : COK l) (h0 : 0 < l.length) (t : Nat) (ht : cc l 0 = (t : Int)) : 0 < yk l t := by
  have := arr_some h (t : Int) 0 h0 ht
  unfold yk
  rw [wk_early h h0 t (by omega)]; omega
/-- The work in the first period. -/
theorem wk_busy {l : List S42} (h : COK l) (h0 : 0 < l.length) : ∀ d t : Nat, (t : Int) = cc l 0 + 1 + d → (t : Int) ≤ PEND l 0 → wk l t = cc l 0 + behind l 0 (t : Int) (pp l) - t := by
  intro d
  induction d with
  | zero =>
    intro t ht hp
    have c := cc_in h h0
    obtain ⟨u, rfl⟩ : ∃ u, t = u + 1 := ⟨t - 1, by omega⟩
    have f := behind_first h h0 u (by omega)
    have a := arr_some h (u : Int) 0 h0 (by omega)
    simp only [wk]
    rw [wk_early h h0 u (by omega), f]
    unfold mx
    split <;> omega
  | succ d ih =>
    intro t ht hp
    have c := cc_in h h0
    obtain ⟨u, rfl⟩ : ∃ u, t = u + 1 := ⟨t - 1, by omega⟩
    have a := ih u (by omega) (by omega)
    have b := (PEND_behind h h0 (u : Int)).1 (by omega)
    have r := arr_in h (u : Int) l.length (Nat.le_refl _)
    simp only [wk]
    rw [behind_arr h h0 u (by omega), a]
    unfold mx
    split <;> omega
theorem yk_busy {l : List S42} (h : COK l) (h0 : 0 < l.length) (t : Nat) (h1 : cc l 0 ≤ (t : Int)) (h2 : (t : Int) < PEND l 0) : 0 < yk l t := by
  by_cases e : cc l 0 = (t : Int)
  · exact yk_first h h0 t e
  · have c := cc_in h h0
    have a := wk_busy h h0 (t - 1 - (cc l 0).toNat) t (by omega) (by omega)
    have b := (PEND_behind h h0 (t : Int)).1 h2
    have r := arr_in h (t : Int) l.length (Nat.le_refl _)
    unfold yk; omega
theorem yk_end {l : List S42} (h : COK l) (h0 : 0 < l.length) (t : Nat) (ht : (t : Int) = PEND l 0) (hn : ∀ i, i < l.length → cc l i ≠ (t : Int)) : yk l t = 0 := by
  have c := cc_in h h0
  have p := pp_in h h0
  have q := PEND_in h h0
  have a := wk_busy h h0 (t - 1 - (cc l 0).toNat) t (by omega) (by omega)
  have b := (PEND_behind h h0 (t : Int)).2 ht
  unfold yk
  rw [a, arr_none (t : Int) l.length hn]; omega
theorem yk_in {l : List S42} (h : COK l) (t : Nat) (ht : t ≤ 300) : 0 ≤ yk l t ∧ yk l t ≤ 30000 := by
  have a := wk_in h t
  have b := arr_in h (t : Int) l.length (Nat.le_refl _)
  have n := clen h
  unfold yk; omega
theorem yks_in {l : List S42} (h : COK l) (t : Nat) (ht : t ≤ 300) : 0 ≤ sg (yk l) t ∧ sg (yk l) t ≤ 30000 * (t : Int) := by
  have := sg_in (f := yk l) (A := 0) (B := 30000) t (fun j hj => yk_in h j (by omega))
  omega
/-- What WorkArea answers. -/
noncomputable def WAV (l : List S42) : Int := @ite _ (COK l) (Classical.propDecidable _) (sg (yk l) 201) (-1)
theorem WAV_pos {l : List S42} (h : COK l) : WAV l = sg (yk l) 201 := by unfold WAV; exact if_pos h
theorem WAV_neg {l : List S42} (h : ¬COK l) : WAV l = -1 := by unfold WAV; exact if_neg h
/-- The waits. -/
def wt (l : List S42) : Nat → Int
  | 0 => 0
  | i + 1 => mx (wt l i + pp l i - (cc l (i + 1) - cc l i)) 0
theorem wt_nonneg (l : List S42) : ∀ i : Nat, 0 ≤ wt l i
  | 0 => Int.le_refl _
  | i + 1 => (le_mx (a := wt l i + pp l i - (cc l (i + 1) - cc l i)) (b := 0)).2
/-- The ends, as they come. -/
def fe (l : List S42) (i : Nat) : Int := cc l i + wt l i + pp l i
theorem wt_le {l : List S42} (h : COK l) : ∀ i : Nat, i < l.length → wt l i ≤ 9 * (i : Int)
  | 0, _ => by simp [wt]
  | i + 1, hi => by
    have a := wt_le h i (by omega)
    have p := pp_in h (i := i) (by omega)
    have c := cc_step h hi
    exact mx_le.2 ⟨by omega, by omega⟩
theorem wt_in {l : List S42} (h : COK l) (i : Nat) (hi : i < l.length) : 0 ≤ wt l i ∧ wt l i ≤ 63 ∧ fe l i ≤ 140 := by
  have a := wt_le h i hi
  have w := wt_nonneg l i
  have c := cc_in h hi
  have p := pp_in h hi
  have n := clen h
  have f : fe l i = cc l i + wt l i + pp l i := rfl
  omega
/-- The work that customer i brings. -/
def wb (l : List S42) (i : Nat) : Int := pp l i * wt l i + Int.tdiv (pp l i * (pp l i + 1)) 2
theorem prod_in {a b A B : Int} (a0 : 0 ≤ a) (a1 : a ≤ A) (b0 : 0 ≤ b) (b1 : b ≤ B) : 0 ≤ a * b ∧ a * b ≤ A * B :=
  ⟨Int.mul_nonneg a0 b0, Int.mul_le_mul a1 b1 b0 (Int.le_trans a0 a1)⟩
theorem wb_in {l : List S42} (h : COK l) (i : Nat) (hi : i < l.length) : (0 ≤ pp l i * wt l i ∧ pp l i * wt l i ≤ 9 * 63) ∧ (0 ≤ pp l i * (pp l i + 1) ∧ pp l i * (pp l i + 1) ≤ 9 * 10) ∧ 0 ≤ Int.tdiv (pp l i * (pp l i + 1)) 2 ∧ Int.tdiv (pp l i * (pp l i + 1)) 2 ≤ 90 := by
  have p := pp_in h hi
  have w := wt_in h i hi
  have a := prod_in (a := pp l i) (b := wt l i) (A := 9) (B := 63) (by omega) (by omega) (by omega) (by omega)
  have b := prod_in (a := pp l i) (b := pp l i + 1) (A := 9) (B := 10) (by omega) (by omega) (by omega) (by omega)
  have c : Int.tdiv (pp l i * (pp l i + 1)) 2 ≤ pp l i * (pp l i + 1) := Int.tdiv_le_self _ b.1
  have d : 0 ≤ Int.tdiv (pp l i * (pp l i + 1)) 2 := Int.tdiv_nonneg b.1 (by omega)
  exact ⟨a, b, d, by omega⟩
theorem wbs_in {l : List S42} (h : COK l) (i : Nat) (hi : i ≤ l.length) : 0 ≤ sg (wb l) i ∧ sg (wb l) i ≤ 657 * (i : Int) := by
  have := sg_in (f := wb l) (A := 0) (B := 657) i (fun j hj => by have := wb_in h j (by omega); unfold wb; omega)
  omega
/-- What WorkBy answers. -/
noncomputable def WBV (l : List S42) : Int := @ite _ (COK l) (Classical.propDecidable _) (sg (wb l) l.length) (-1)
theorem WBV_pos {l : List S42} (h : COK l) : WBV l = sg (wb l) l.length := by unfold WBV; exact if_pos h
theorem WBV_neg {l : List S42} (h : ¬COK l) : WBV l = -1 := by unfold WBV; exact if_neg h
theorem fe_step (l : List S42) (i : Nat) : fe l (i + 1) - pp l (i + 1) = mx (fe l i) (cc l (i + 1)) := by
  unfold fe
  simp only [wt]
  unfold mx
  split <;> split <;> omega
theorem fe_le {l : List S42} (h : COK l) (i : Nat) : ∀ j : Nat, i < j → j < l.length → fe l i ≤ fe l j - pp l j
  | j + 1, hij, hj => by
    have s := fe_step l j
    have m := le_mx (a := fe l j) (b := cc l (j + 1))
    by_cases e : i = j
    · subst e; omega
    · have a := fe_le h i j (by omega) (by omega)
      have b := pp_in h (i := j) (by omega)
      omega
/-- What is left of customer i at the time t, as they come. -/
def clampf (l : List S42) (i : Nat) (t : Int) : Int := if t ≤ fe l i - pp l i then pp l i else if t < fe l i then fe l i - t else 0
theorem pk_least0 (l : List S42) (lf : Nat → Int) (t : Int) : ∀ m w : Nat, pk l lf t 0 m = (w : Int) → ∀ j, j < w → cc l j > t ∨ lf j = 0
  | 0, w, h, j, hj => by simp only [pk] at h; omega
  | m + 1, w, h, j, hj => by
    simp only [pk] at h
    by_cases c : cc l m > t ∨ lf m = 0
    · rw [if_pos c] at h
      exact pk_least0 l lf t m w h j hj
    · rw [if_neg c] at h
      split at h
      · rename_i hc
        obtain rfl : m = w := by omega
        exact pk_none l lf t 0 m (by omega) j hj
      · exact pk_least0 l lf t m w h j hj
theorem lfs_fifo {l : List S42} (h : COK l) : ∀ (t i : Nat), i < l.length → lfs l 0 t i = clampf l i (t : Int)
  | 0, i, hi => by
    have a := cc_in h hi
    have b := wt_nonneg l i
    unfold clampf fe
    rw [if_pos (by omega)]; rfl
  | t + 1, i, hi => by
    have ih := lfs_fifo h t
    have c0 := cc_in h hi
    have w0 := wt_nonneg l i
    have p0 := pp_in h hi
    have f0 : fe l i = cc l i + wt l i + pp l i := rfl
    rw [lfs_step, ih i hi]
    by_cases c : ow l 0 t < 0
    · rw [if_neg (by omega)]
      have n := ow_none c i hi
      rw [ih i hi] at n
      unfold clampf at n ⊢
      by_cases e1 : (t : Int) ≤ fe l i - pp l i
      · rw [if_pos e1] at n ⊢
        rw [if_pos (by omega)]; omega
      · rw [if_neg e1] at n ⊢
        by_cases e2 : (t : Int) < fe l i
        · rw [if_pos e2] at n; omega
        · rw [if_neg e2, if_neg (by omega), if_neg (by omega)]; omega
    · obtain ⟨w, hw⟩ := Int.eq_ofNat_of_zero_le (show 0 ≤ ow l 0 t by omega)
      have wi := ow_there h hw
      have lw := wi.2.2
      rw [ih w wi.1] at lw
      have pw := pp_in h wi.1
      have fw : fe l w = cc l w + wt l w + pp l w := rfl
      have hl : (t : Int) < fe l w := by
        unfold clampf at lw
        split at lw
        · omega
        · split at lw
          · assumption
          · omega
      have st : fe l w - pp l w ≤ (t : Int) := by
        cases w with
        | zero =>
          have : wt l 0 = 0 := rfl
          omega
        | succ v =>
          have n := pk_least0 l (lfs l 0 t) (t : Int) l.length (v + 1) hw v (by omega)
          have cv := cc_step h wi.1
          have nv : lfs l 0 t v = 0 := by omega
          rw [ih v (by omega)] at nv
          have pv := pp_in h (i := v) (by omega)
          have fv : fe l v ≤ (t : Int) := by
            unfold clampf at nv
            split at nv
            · omega
            · split at nv <;> omega
          have s := fe_step l v
          rw [s]
          exact mx_le.2 ⟨fv, wi.2.1⟩
      rw [hw]
      by_cases e : i = w
      · subst e
        rw [if_pos rfl]
        unfold clampf
        by_cases e1 : (t : Int) ≤ fe l i - pp l i
        · rw [if_pos e1, if_neg (by omega)]
          split <;> omega
        · rw [if_neg e1, if_pos hl, if_neg (by omega)]
          split <;> omega
      · rw [if_neg (by omega)]
        unfold clampf
        by_cases e1 : i < w
        · have a := fe_le h i w e1 wi.1
          rw [if_neg (by omega), if_neg (by omega), if_neg (by omega), if_neg (by omega)]; omega
        · have a := fe_le h w i (by omega) hi
          rw [if_pos (by omega), if_pos (by omega)]; omega
/-- As they come, each is there for the wait and the need. -/
theorem lst_fifo {l : List S42} (h : COK l) (i : Nat) (hi : i < l.length) : lst (ORDL l 0) (i : Int) (ORDL l 0).length = fe l i := by
  have c0 := cc_in h hi
  have w0 := wt_nonneg l i
  have p0 := pp_in h hi
  have f0 : fe l i = cc l i + wt l i + pp l i := rfl
  obtain ⟨e, he⟩ := Int.eq_ofNat_of_zero_le (show 0 ≤ fe l i - 1 by omega)
  have a := lst_ORDL h 0 i hi e (by
    rw [lfs_fifo h e i hi]
    unfold clampf
    split
    · omega
    · rw [if_pos (by omega)]; omega) (by
    rw [lfs_fifo h (e + 1) i hi]
    unfold clampf
    rw [if_neg (by omega), if_neg (by omega)])
  rw [a]; omega
/-- What is there at the time t, added: the work. -/
theorem yk_lfs {l : List S42} (h : COK l) : ∀ t : Nat, yk l t = sg (fun i => if cc l i ≤ (t : Int) then lfs l 0 t i else 0) l.length
  | 0 => by
    show 0 + arr l ((0 : Nat) : Int) l.length = _
    rw [Int.zero_add]
    unfold arr
    refine sg_congr _ (fun i hi => ?_)
    have c := cc_in h hi
    by_cases e : cc l i = ((0 : Nat) : Int)
    · rw [if_pos e, if_pos (by omega)]; rfl
    · rw [if_neg e, if_neg (by omega)]
  | t + 1 => by
    have ih := yk_lfs h t
    have nn : ∀ j, j < l.length → 0 ≤ (if cc l j ≤ (t : Int) then lfs l 0 t j else 0) := by
      intro j hj
      have := lfs_in h 0 t j hj
      split <;> omega
    have key : wk l (t + 1) = sg (fun i => if cc l i ≤ (t : Int) then lfs l 0 (t + 1) i else 0) l.length := by
      show mx (yk l t - 1) 0 = _
      by_cases c : ow l 0 t < 0
      · have z : yk l t = 0 := by
          rw [ih, sg_congr (g := fun _ => (0 : Int)) l.length (fun i hi => ?_), sg_zero]
          have := ow_none c i hi
          split <;> omega
        rw [z, sg_congr (g := fun _ => (0 : Int)) l.length (fun i hi => ?_), sg_zero]
        · decide
        · have := ow_none c i hi
          have s := lfs_step (l := l) 0 t i
          rw [if_neg (by omega)] at s
          split <;> omega
      · obtain ⟨w, hw⟩ := Int.eq_ofNat_of_zero_le (show 0 ≤ ow l 0 t by omega)
        have wi := ow_there h hw
        have m := sg_mem (f := fun i => if cc l i ≤ (t : Int) then lfs l 0 t i else 0) l.length w wi.1 nn
        simp only [wi.2.1, if_true] at m
        have un := sg_unit w 1 l.length
        rw [if_pos wi.1] at un
        have e : sg (fun i => if cc l i ≤ (t : Int) then lfs l 0 (t + 1) i else 0) l.length = yk l t - 1 := by
          rw [ih, ← un, ← sg_sub]
          refine sg_congr _ (fun i hi => ?_)
          rw [lfs_step, hw]
          by_cases e : i = w
          · subst e
            rw [if_pos wi.2.1, if_pos rfl, if_pos wi.2.1, if_pos rfl]
          · rw [if_neg (show ¬ ((w : Int) = (i : Int)) by omega), if_neg e]; split <;> omega
        rw [e]
        unfold mx
        rw [if_neg (by omega)]
    show wk l (t + 1) + arr l ((t + 1 : Nat) : Int) l.length = _
    rw [key]
    unfold arr
    rw [← sg_add]
    refine sg_congr _ (fun i hi => ?_)
    by_cases c1 : cc l i ≤ (t : Int)
    · rw [if_pos c1, if_neg (by omega), if_pos (by omega)]; omega
    · by_cases c2 : cc l i = ((t + 1 : Nat) : Int)
      · rw [if_neg c1, if_pos c2, if_pos (by omega), lfs_early h 0 i hi (t + 1) (by omega)]; omega
      · rw [if_neg c1, if_neg c2, if_neg (by omega)]; rfl
theorem sg_const (x : Int) : ∀ n : Nat, sg (fun _ => x) n = x * (n : Int)
  | 0 => by simp [sg]
  | n + 1 => by
    simp only [sg]
    rw [sg_const x n, Int.natCast_add, Int.mul_add]; simp
theorem sg_down {p : Nat} (h : 1 ≤ p ∧ p ≤ 9) : sg (fun j => (p : Int) - (j : Int)) p = Int.tdiv ((p : Int) * ((p : Int) + 1)) 2 := by
  have c : p = 1 ∨ p = 2 ∨ p = 3 ∨ p = 4 ∨ p = 5 ∨ p = 6 ∨ p = 7 ∨ p = 8 ∨ p = 9 := by omega
  rcases c with rfl | rfl | rfl | rfl | rfl | rfl | rfl | rfl | rfl <;> decide
/-- One customer's part. -/
theorem one_area {l : List S42} (h : COK l) (i : Nat) (hi : i < l.length) : sg (fun t => if cc l i ≤ (t : Int) then lfs l 0 t i else 0) 201 = wb l i := by
  have c0 := cc_in h hi
  have w0 := wt_in h i hi
  have p0 := pp_in h hi
  have f0 : fe l i = cc l i + wt l i + pp l i := rfl
  obtain ⟨c, hc⟩ := Int.eq_ofNat_of_zero_le c0.1
  obtain ⟨w, hw⟩ := Int.eq_ofNat_of_zero_le w0.1
  obtain ⟨p, hp⟩ := Int.eq_ofNat_of_zero_le (show 0 ≤ pp l i by omega)
  obtain ⟨q, hq⟩ : ∃ q, 201 = c + (w + (p + q)) := ⟨201 - (c + w + p), by omega⟩
  have e := sg_congr (f := fun t => if cc l i ≤ (t : Int) then lfs l 0 t i else 0) (g := fun t => if cc l i ≤ (t : Int) then clampf l i (t : Int) else 0) 201 (fun t _ => by rw [lfs_fifo h t i hi])
  rw [e, hq, sg_split, sg_split, sg_split]
  have s1 : sg (fun t => if cc l i ≤ (t : Int) then clampf l i (t : Int) else 0) c = 0 := by
    rw [sg_congr (g := fun _ => (0 : Int)) c (fun t ht => if_neg (by omega)), sg_zero]
  have s2 : sg (fun j => if cc l i ≤ ((c + j : Nat) : Int) then clampf l i ((c + j : Nat) : Int) else 0) w = pp l i * wt l i := by
    rw [hw, ← sg_const]
    refine sg_congr _ (fun j hj => ?_)
    rw [if_pos (by omega)]
    unfold clampf
    rw [if_pos (by omega)]
  have s3 : sg (fun j => if cc l i ≤ ((c + (w + j) : Nat) : Int) then clampf l i ((c + (w + j) : Nat) : Int) else 0) p = Int.tdiv (pp l i * (pp l i + 1)) 2 := by
    rw [hp, ← sg_down (p := p) (by omega)]
    refine sg_congr _ (fun j hj => ?_)
    rw [if_pos (by omega)]
    unfold clampf
    by_cases z : j = 0
    · rw [if_pos (by omega)]; omega
    · rw [if_neg (by omega), if_pos (by omega)]; omega
  have s4 : sg (fun j => if cc l i ≤ ((c + (w + (p + j)) : Nat) : Int) then clampf l i ((c + (w + (p + j)) : Nat) : Int) else 0) q = 0 := by
    rw [sg_congr (g := fun _ => (0 : Int)) q (fun j hj => ?_), sg_zero]
    rw [if_pos (by omega)]
    unfold clampf
    rw [if_neg (by omega), if_neg (by omega)]
  unfold wb
  omega
/-- The area under the work is what each brings. -/
theorem WAV_WBV {l : List S42} (h : COK l) : WAV l = WBV l := by
  rw [WAV_pos h, WBV_pos h, sg_congr (g := fun t => sg (fun i => if cc l i ≤ (t : Int) then lfs l 0 t i else 0) l.length) 201 (fun t _ => yk_lfs h t)]
  rw [sg_swap (fun t i => if cc l i ≤ (t : Int) then lfs l 0 t i else 0) l.length 201]
  exact sg_congr _ (fun i hi => one_area h i hi)
theorem iCustomersOk_l0 (l : List S42) (hl : l.length ≤ 9223372036854775806) : ∀ d i : Nat, i + d = l.length →
    Ev (fun k => impl_CustomersOk.l0 k l l (l.length : Int) (i : Int)) (dec ((∀ j : Nat, i ≤ j → j < l.length → CIn l j) ∧ (l.length : Int) ≤ 8)) := by
  intro d
  induction d with
  | zero =>
    intro i hi
    refine ev_succ ?_
    simp only [impl_CustomersOk.l0]
    refine ev_neg (by omega) (ev_some ?_)
    obtain rfl : i = l.length := by omega
    rw [dec_of]
    exact dec_congr ⟨fun h => ⟨from_end, h⟩, fun h => h.2⟩
  | succ d ih =>
    intro i hi
    refine ev_succ ?_
    simp only [impl_CustomersOk.l0]
    have hs := from_step (i := i) (n := l.length) (Q := fun j => CIn l j) (by omega)
    refine ev_pos (by omega) (ev_pos (by omega) (ev_pos (by omega) ?_))
    by_cases h1 : (rd_T42 l (i : Int)).f0 < 0
    · exact ev_pos h1 (ev_some (dec_neg (fun x => by have := (hs.1 x.1).1.1.1; omega)).symm)
    refine ev_neg h1 ?_
    by_cases h2 : (rd_T42 l (i : Int)).f0 > 60
    · exact ev_pos h2 (ev_some (dec_neg (fun x => by have := (hs.1 x.1).1.1.2; omega)).symm)
    refine ev_neg h2 ?_
    rw [wrap_succ (by omega), wrap_pred (by omega)]
    have fin : (0 < i → (rd_T42 l ((i : Int) - 1)).f0 ≤ (rd_T42 l (i : Int)).f0) → Ev (fun k => if (rd_T42 l (i : Int)).f1 < 1 then some false else if (rd_T42 l (i : Int)).f1 > 9 then some false else impl_CustomersOk.l0 k l l (l.length : Int) ((i + 1 : Nat) : Int)) (dec ((∀ j : Nat, i ≤ j → j < l.length → CIn l j) ∧ (l.length : Int) ≤ 8)) := by
      intro hp
      by_cases h3 : (rd_T42 l (i : Int)).f1 < 1
      · exact ev_pos h3 (ev_some (dec_neg (fun x => by have := (hs.1 x.1).1.2.1.1; omega)).symm)
      refine ev_neg h3 ?_
      by_cases h4 : (rd_T42 l (i : Int)).f1 > 9
      · exact ev_pos h4 (ev_some (dec_neg (fun x => by have := (hs.1 x.1).1.2.1.2; omega)).symm)
      refine ev_neg h4 (ev_to (ih (i + 1) (by omega)) (dec_congr ?_))
      rw [hs]
      exact ⟨fun x => ⟨⟨⟨⟨by omega, by omega⟩, ⟨by omega, by omega⟩, hp⟩, x.1⟩, x.2⟩, fun x => ⟨x.1.2, x.2⟩⟩
    by_cases h5 : (i : Int) > 0
    · refine ev_pos h5 (ev_pos (by omega) (ev_pos (by omega) ?_))
      by_cases h6 : (rd_T42 l (i : Int)).f0 < (rd_T42 l ((i : Int) - 1)).f0
      · exact ev_pos h6 (ev_some (dec_neg (fun x => by have := (hs.1 x.1).1.2.2 (by omega); omega)).symm)
      · exact ev_neg h6 (fin (fun _ => by omega))
    · exact ev_neg h5 (fin (fun h => by omega))
theorem iCustomersOk_ev (l : List S42) (hl : l.length ≤ 9223372036854775806) : Ev (fun k => impl_CustomersOk.f k l) (dec (COK l)) := iCustomersOk_l0 l hl l.length 0 (by omega)
theorem mx_turn (x : Int) : mx 0 x = mx x 0 := by unfold mx; split <;> split <;> omega
theorem iworks_l1 {l : List S42} (h : COK l) (o : List Int) (t : Nat) (ht : t ≤ 200) {r : List Int} (nx : Ev (fun k => impl_works.l0 k l (o.set t (yk l t)) (wk l (t + 1)) ((t + 1 : Nat) : Int)) r) :
    ∀ d i : Nat, i + d = l.length → Ev (fun k => impl_works.l1 k l o (wk l t + arr l (t : Int) i) (t : Int) (i : Int)) r := by
  have n := clen h
  have w := wk_in h t
  intro d
  induction d with
  | zero =>
    intro i hi
    obtain rfl : i = l.length := by omega
    have a := arr_in h (t : Int) l.length (Nat.le_refl _)
    have e : mx 0 (wrap64 (wk l t + arr l (t : Int) l.length - 1)) = wk l (t + 1) := by
      rw [wrap_id (by omega) (by omega), mx_turn]; rfl
    refine ev_succ ?_
    simp only [impl_works.l1]
    rw [e, wrap_succ (i := t) (by omega)]
    exact ev_neg (by omega) nx
  | succ d ih =>
    intro i hi
    have a := arr_in h (t : Int) (i + 1) (by omega)
    have ih := ih (i + 1) (by omega)
    have s : arr l (t : Int) (i + 1) = arr l (t : Int) i + if cc l i = (t : Int) then pp l i else 0 := rfl
    refine ev_succ ?_
    simp only [impl_works.l1]
    rw [wrap_succ (i := i) (by omega)]
    refine ev_pos (by omega) (ev_pos (by omega) ?_)
    by_cases c : cc l i = (t : Int)
    · rw [if_pos c] at s
      have e : wrap64 (wk l t + arr l (t : Int) i + (rd_T42 l (i : Int)).f1) = wk l t + arr l (t : Int) (i + 1) := by
        show wrap64 (wk l t + arr l (t : Int) i + pp l i) = _
        rw [wrap_id (by omega) (by omega)]; omega
      rw [e]
      exact ev_pos c ih
    · rw [if_neg c] at s
      rw [s, Int.add_zero] at ih
      exact ev_neg c ih
theorem iworks_l0 {l : List S42} (h : COK l) : ∀ (d t : Nat) (o : List Int), t + d = 201 → o.length = 201 → (∀ j : Nat, j < t → rd o (j : Int) = yk l j) →
    Ev (fun k => impl_works.l0 k l o (wk l t) (t : Int)) (tab 201 (yk l)) := by
  intro d
  induction d with
  | zero =>
    intro t o ht ho hr
    refine ev_succ ?_
    simp only [impl_works.l0]
    exact ev_neg (by omega) (ev_some (eq_tab ho (fun i hi => hr i (by omega))))
  | succ d ih =>
    intro t o ht ho hr
    have nx := ih (t + 1) (o.set t (yk l t)) (by omega) (by rw [List.length_set]; exact ho) (fun j hj => by
      rw [rd_set _ _ _ _ (by omega)]
      by_cases e : j = t
      · rw [if_pos e, e]
      · rw [if_neg e]; exact hr j (by omega))
    have l1 := iworks_l1 h o t (by omega) nx l.length 0 (by omega)
    have z : wk l t + arr l (t : Int) 0 = wk l t := Int.add_zero _
    rw [z] at l1
    refine ev_succ ?_
    simp only [impl_works.l0]
    exact ev_pos (by omega) (ev_pos (by omega) l1)
theorem iWorkArea_l0 {l : List S42} (h : COK l) : ∀ (d t : Nat), t + d = 201 → Ev (fun k => impl_WorkArea.l0 k (tab 201 (yk l)) (sg (yk l) t) (t : Int)) (sg (yk l) 201) := by
  intro d
  induction d with
  | zero =>
    intro t ht
    obtain rfl : t = 201 := by omega
    refine ev_succ ?_
    simp only [impl_WorkArea.l0]
    exact ev_neg (by omega) (Ev.now _)
  | succ d ih =>
    intro t ht
    have a := yks_in h (t + 1) (by omega)
    have s : sg (yk l) (t + 1) = sg (yk l) t + yk l t := rfl
    refine ev_succ ?_
    simp only [impl_WorkArea.l0]
    rw [rd_tab _ _ _ (by omega), wrap_succ (i := t) (by omega), ← s, wrap_id (x := sg (yk l) (t + 1)) (by omega) (by omega)]
    exact ev_pos (by omega) (ev_pos (by omega) (ih (t + 1) (by omega)))
theorem iWorkArea_ev (l : List S42) (hl : l.length ≤ 9223372036854775806) : Ev (fun k => impl_WorkArea.f k l) (WAV l) := by
  unfold impl_WorkArea.f impl_works.f
  refine Ev.bind (iCustomersOk_ev l hl) ?_
  by_cases h : COK l
  · rw [WAV_pos h]
    exact ev_pos (dec_pos h) (Ev.bind (iworks_l0 h 201 0 _ (by omega) List.length_replicate (fun j hj => by omega)) (iWorkArea_l0 h 201 0 (by omega)))
  · exact ev_neg (by rw [dec_neg h]; simp) (ev_some (WAV_neg h).symm)
theorem sl3Work_l1 {l : List S42} (h : COK l) (m : Int) (o : List Int) (t : Nat) (ho : o.length ≤ 1000) (ht : t ≤ 1000) {r : List Int} (nx : Ev (fun k => spec_l3Work.l0 k l m (o ++ [yk l t]) (wk l (t + 1)) ((t + 1 : Nat) : Int)) r) :
    ∀ d i : Nat, i + d = l.length → Ev (fun k => spec_l3Work.l1 k l m o (wk l t + arr l (t : Int) i) (t : Int) (i : Int)) r := by
  have n := clen h
  have w := wk_in h t
  intro d
  induction d with
  | zero =>
    intro i hi
    obtain rfl : i = l.length := by omega
    have a := arr_in h (t : Int) l.length (Nat.le_refl _)
    have e : mx (wrap64 (wk l t + arr l (t : Int) l.length - 1)) 0 = wk l (t + 1) := by
      rw [wrap_id (by omega) (by omega)]; rfl
    refine ev_succ ?_
    simp only [spec_l3Work.l1]
    rw [e, wrap_succ (i := t) (by omega)]
    exact ev_neg (by omega) (ev_pos (by omega) nx)
  | succ d ih =>
    intro i hi
    have a := arr_in h (t : Int) (i + 1) (by omega)
    have ih := ih (i + 1) (by omega)
    have s : arr l (t : Int) (i + 1) = arr l (t : Int) i + if cc l i = (t : Int) then pp l i else 0 := rfl
    refine ev_succ ?_
    simp only [spec_l3Work.l1]
    rw [wrap_succ (i := i) (by omega)]
    refine ev_pos (by omega) (ev_pos (by omega) ?_)
    by_cases c : cc l i = (t : Int)
    · rw [if_pos c] at s
      have e : wrap64 (wk l t + arr l (t : Int) i + (rd_T42 l (i : Int)).f1) = wk l t + arr l (t : Int) (i + 1) := by
        show wrap64 (wk l t + arr l (t : Int) i + pp l i) = _
        rw [wrap_id (by omega) (by omega)]; omega
      rw [e]
      exact ev_pos c ih
    · rw [if_neg c] at s
      rw [s, Int.add_zero] at ih
      exact ev_neg c ih
theorem sl3Work_l0 {l : List S42} (h : COK l) (m : Nat) (hm : m ≤ 500) : ∀ (d : Nat) (o : List Int), o.length + d = m + 1 → (∀ j : Nat, j < o.length → rd o (j : Int) = yk l j) →
    Ev (fun k => spec_l3Work.l0 k l (m : Int) o (wk l o.length) (o.length : Int)) (tab (m + 1) (yk l)) := by
  intro d
  induction d with
  | zero =>
    intro o ho hr
    refine ev_succ ?_
    simp only [spec_l3Work.l0]
    exact ev_neg (by omega) (ev_some (eq_tab (by omega) (fun i hi => hr i (by omega))))
  | succ d ih =>
    intro o ho hr
    have nx := ih (o ++ [yk l o.length]) (by simp; omega) (fun j hj => by
      rw [rd_app]
      by_cases e : j < o.length
      · rw [if_pos e]; exact hr j e
      · have ej : j = o.length := by simp at hj; omega
        rw [if_neg e, if_pos ej, ej])
    rw [List.length_append] at nx
    have l1 := sl3Work_l1 h (m : Int) o o.length (by omega) (by omega) nx l.length 0 (by omega)
    have z : wk l o.length + arr l (o.length : Int) 0 = wk l o.length := Int.add_zero _
    rw [z] at l1
    refine ev_succ ?_
    simp only [spec_l3Work.l0]
    exact ev_pos (by omega) l1
theorem sl3Work_ev {l : List S42} (h : COK l) (m : Nat) (hm : m ≤ 500) : Ev (fun k => spec_l3Work.f k l (m : Int)) (tab (m + 1) (yk l)) := by
  unfold spec_l3Work.f
  exact sl3Work_l0 h m hm (m + 1) [] (by simp) (fun j hj => by simp at hj)
theorem l1In_eq (a b c : Int) : spec_l1In.f a b c = some (dec (b ≤ a ∧ a ≤ c)) := by
  unfold spec_l1In.f
  by_cases h : a ≥ b
  · rw [if_pos h]
    by_cases h2 : a ≤ c
    · rw [decide_eq_true h2, dec_pos ⟨h, h2⟩]
    · rw [decide_eq_false h2, dec_neg (fun x => h2 x.2)]
  · rw [if_neg h, dec_neg (fun x => h x.1)]
theorem l1In_ev (a b c : Int) : Ev (fun _ => spec_l1In.f a b c) (dec (b ≤ a ∧ a ≤ c)) := Ev.congr (fun _ => l1In_eq a b c) (Ev.now _)
theorem sCustomersOk_l0 (l : List S42) (hl : l.length ≤ 9223372036854775806) : ∀ d i : Nat, i + d = l.length →
    Ev (fun k => spec_CustomersOk.l0 k l (i : Int)) (dec ((∀ j : Nat, i ≤ j → j < l.length → CIn l j) ∧ (l.length : Int) ≤ 8)) := by
  intro d
  induction d with
  | zero =>
    intro i hi
    refine ev_succ ?_
    simp only [spec_CustomersOk.l0]
    refine ev_neg (by omega) (ev_some ?_)
    obtain rfl : i = l.length := by omega
    rw [dec_of]
    exact dec_congr ⟨fun h => ⟨from_end, h⟩, fun h => h.2⟩
  | succ d ih =>
    intro i hi
    refine ev_succ ?_
    simp only [spec_CustomersOk.l0]
    have hs := from_step (i := i) (n := l.length) (Q := fun j => CIn l j) (by omega)
    refine ev_pos (by omega) (ev_pos (by omega) (Ev.bind (l1In_ev _ _ _) ?_))
    by_cases h1 : 0 ≤ (rd_T42 l (i : Int)).f0 ∧ (rd_T42 l (i : Int)).f0 ≤ 60
    · refine ev_pos (dec_pos h1) (Ev.bind (l1In_ev _ _ _) ?_)
      by_cases h2 : 1 ≤ (rd_T42 l (i : Int)).f1 ∧ (rd_T42 l (i : Int)).f1 ≤ 9
      · refine ev_pos (dec_pos h2) ?_
        rw [wrap_succ (by omega), wrap_pred (by omega)]
        by_cases h3 : (i : Int) > 0
        · refine ev_pos h3 (ev_pos (by omega) (ev_pos (by omega) ?_))
          by_cases h4 : (rd_T42 l (i : Int)).f0 < (rd_T42 l ((i : Int) - 1)).f0
          · exact ev_pos h4 (ev_some (dec_neg (fun x => by have := (hs.1 x.1).1.2.2 (by omega); omega)).symm)
          · refine ev_neg h4 (ev_to (ih (i + 1) (by omega)) (dec_congr ?_))
            rw [hs]
            exact ⟨fun x => ⟨⟨⟨h1, h2, fun _ => by omega⟩, x.1⟩, x.2⟩, fun x => ⟨x.1.2, x.2⟩⟩
        · refine ev_neg h3 (ev_to (ih (i + 1) (by omega)) (dec_congr ?_))
          rw [hs]
          exact ⟨fun x => ⟨⟨⟨h1, h2, fun _ => by omega⟩, x.1⟩, x.2⟩, fun x => ⟨x.1.2, x.2⟩⟩
      · exact ev_neg (by rw [dec_neg h2]; simp) (ev_some (dec_neg (fun x => h2 (hs.1 x.1).1.2.1)).symm)
    · exact ev_neg (by rw [dec_neg h1]; simp) (ev_some (dec_neg (fun x => h1 (hs.1 x.1).1.1)).symm)
theorem sCustomersOk_ev (l : List S42) (hl : l.length ≤ 9223372036854775806) : Ev (fun k => spec_CustomersOk.f k l) (dec (COK l)) := sCustomersOk_l0 l hl l.length 0 (by omega)
theorem sWorkArea_l0 {l : List S42} (h : COK l) : ∀ (d t : Nat), t + d = 201 → Ev (fun k => spec_WorkArea.l0 k (sg (yk l) t) (tab 201 (yk l)) (t : Int)) (sg (yk l) 201) := by
  intro d
  induction d with
  | zero =>
    intro t ht
    obtain rfl : t = 201 := by omega
    have tl := tab_len 201 (yk l)
    refine ev_succ ?_
    simp only [spec_WorkArea.l0]
    exact ev_neg (by omega) (Ev.now _)
  | succ d ih =>
    intro t ht
    have tl := tab_len 201 (yk l)
    have a := yks_in h (t + 1) (by omega)
    have s : sg (yk l) (t + 1) = sg (yk l) t + yk l t := rfl
    refine ev_succ ?_
    simp only [spec_WorkArea.l0]
    rw [rd_tab _ _ _ (by omega), wrap_succ (i := t) (by omega), ← s, wrap_id (x := sg (yk l) (t + 1)) (by omega) (by omega)]
    exact ev_pos (by omega) (ev_pos (by omega) (ih (t + 1) (by omega)))
theorem sWorkArea_ev (l : List S42) (hl : l.length ≤ 9223372036854775806) : Ev (fun k => spec_WorkArea.f k l) (WAV l) := by
  unfold spec_WorkArea.f
  refine Ev.bind (sCustomersOk_ev l hl) ?_
  by_cases h : COK l
  · rw [WAV_pos h]
    exact ev_pos (dec_pos h) (Ev.bind (sl3Work_ev h 200 (by omega)) (sWorkArea_l0 h 201 0 (by omega)))
  · exact ev_neg (by rw [dec_neg h]; simp) (ev_some (WAV_neg h).symm)
theorem mx_comm0 (x : Int) : mx 0 x = mx x 0 := by unfold mx; split <;> split <;> omega
theorem iWaitsOf_l0 {l : List S42} (h : COK l) : ∀ (d : Nat) (o : List Int), o.length + d = l.length → (∀ j : Nat, j < o.length → rd o (j : Int) = wt l j) →
    Ev (fun k => impl_WaitsOf.l0 k l o l (l.length : Int) (o.length : Int)) (tab l.length (wt l)) := by
  have n := clen h
  intro d
  induction d with
  | zero =>
    intro o ho hr
    refine ev_succ ?_
    simp only [impl_WaitsOf.l0]
    exact ev_neg (by omega) (ev_some (eq_tab (by omega) (fun i hi => hr i (by omega))))
  | succ d ih =>
    intro o ho hr
    have nx := ih (o ++ [wt l o.length]) (by simp; omega) (fun j hj => by
      rw [rd_app]
      by_cases e : j < o.length
      · rw [if_pos e]; exact hr j e
      · have ej : j = o.length := by simp at hj; omega
        rw [if_neg e, if_pos ej, ej])
    rw [List.length_append] at nx
    refine ev_succ ?_
    simp only [impl_WaitsOf.l0]
    rw [wrap_succ (i := o.length) (by omega)]
    refine ev_pos (by omega) (ev_pos (by omega) (ev_pos (by omega) ?_))
    by_cases z : o.length = 0
    · rw [z] at nx ⊢
      exact ev_neg (by omega) (ev_pos (by omega) nx)
    · obtain ⟨m, hm⟩ : ∃ m, o.length = m + 1 := ⟨o.length - 1, by omega⟩
      have a := wt_in h m (by omega)
      have p := pp_in h (i := m) (by omega)
      have c := cc_in h (i := m) (by omega)
      have c2 := cc_in h (i := m + 1) (by omega)
      have e : wrap64 (((m + 1 : Nat) : Int) - 1) = (m : Int) := by rw [wrap_id (by omega) (by omega)]; omega
      have e2 : mx 0 (wrap64 (wrap64 (rd o (m : Int) + (rd_T42 l (m : Int)).f1) - wrap64 ((rd_T42 l ((m + 1 : Nat) : Int)).f0 - (rd_T42 l (m : Int)).f0))) = wt l (m + 1) := by
        rw [hr m (by omega)]
        show mx 0 (wrap64 (wrap64 (wt l m + pp l m) - wrap64 (cc l (m + 1) - cc l m))) = mx (wt l m + pp l m - (cc l (m + 1) - cc l m)) 0
        rw [wrap_id (x := wt l m + pp l m) (by omega) (by omega), wrap_id (x := cc l (m + 1) - cc l m) (by omega) (by omega), wrap_id (by omega) (by omega), mx_comm0]
      rw [hm] at nx ⊢
      rw [e, e2]
      exact ev_pos (by omega) (ev_pos (by omega) (ev_pos (by omega) (ev_pos (by omega) (ev_pos (by omega) nx))))
theorem iWaitsOf_ev {l : List S42} (h : COK l) : Ev (fun k => impl_WaitsOf.f k l) (tab l.length (wt l)) := by
  have n := clen h
  unfold impl_WaitsOf.f
  exact Ev.bind (iCustomersOk_ev l (by omega)) (ev_pos (dec_pos h) (iWaitsOf_l0 h l.length [] (by simp) (fun j hj => by simp at hj)))
theorem iWorkBy_l0 {l : List S42} (h : COK l) : ∀ (d i : Nat), i + d = l.length → Ev (fun k => impl_WorkBy.l0 k l (sg (wb l) i) (tab l.length (wt l)) ((tab l.length (wt l)).length : Int) (i : Int)) (sg (wb l) l.length) := by
  have n := clen h
  have tl := tab_len l.length (wt l)
  intro d
  induction d with
  | zero =>
    intro i hi
    obtain rfl : i = l.length := by omega
    refine ev_succ ?_
    simp only [impl_WorkBy.l0]
    exact ev_neg (by omega) (Ev.now _)
  | succ d ih =>
    intro i hi
    have a := wb_in h i (by omega)
    have b := wbs_in h (i + 1) (by omega)
    have p := pp_in h (i := i) (by omega)
    have c : sg (wb l) (i + 1) = sg (wb l) i + (pp l i * wt l i + Int.tdiv (pp l i * (pp l i + 1)) 2) := rfl
    have pd : (rd_T42 l (i : Int)).f1 = pp l i := rfl
    refine ev_succ ?_
    simp only [impl_WorkBy.l0, pd]
    rw [wrap_succ (i := i) (by omega), rd_tab _ _ _ (by omega), wrap_id (x := pp l i + 1) (by omega) (by omega), wrap_id (x := pp l i * (pp l i + 1)) (by omega) (by omega), wrap_id (x := pp l i * wt l i) (by omega) (by omega), wrap_id (x := Int.tdiv _ 2) (by omega) (by omega), wrap_id (x := pp l i * wt l i + _) (by omega) (by omega), wrap_id (x := sg (wb l) i + _) (by omega) (by omega), ← c]
    exact ev_pos (by omega) (ev_pos (by omega) (ev_pos (by omega) (ev_pos (by omega) (ih (i + 1) (by omega)))))
theorem iWorkBy_ev (l : List S42) (hl : l.length ≤ 9223372036854775806) : Ev (fun k => impl_WorkBy.f k l) (WBV l) := by
  unfold impl_WorkBy.f
  refine Ev.bind (iCustomersOk_ev l hl) ?_
  by_cases h : COK l
  · rw [WBV_pos h]
    exact ev_pos (dec_pos h) (Ev.bind (iWaitsOf_ev h) (iWorkBy_l0 h l.length 0 (by omega)))
  · exact ev_neg (by rw [dec_neg h]; simp) (ev_some (WBV_neg h).symm)
/-- All later. -/
def LATER (l q : List S42) (b : Int) : Prop := q.length = l.length ∧ ∀ j : Nat, j < l.length → cc q j = cc l j + b ∧ pp q j = pp l j
theorem wt_later {l q : List S42} {b : Int} (h : LATER l q b) : ∀ i : Nat, i < l.length → wt q i = wt l i
  | 0, _ => rfl
  | i + 1, hi => by
    have a := h.2 i (by omega)
    have c := h.2 (i + 1) hi
    simp only [wt]
    rw [wt_later h i (by omega), a.1, a.2, c.1]
    congr 1
    omega
theorem WBV_later {l q : List S42} {b : Int} (h : LATER l q b) (hl : COK l) (hq : COK q) : WBV q = WBV l := by
  rw [WBV_pos hl, WBV_pos hq, h.1]
  refine sg_congr _ (fun i hi => ?_)
  unfold wb
  rw [wt_later h i hi, (h.2 i hi).2]
theorem iLaterBy_l0 {l : List S42} (h : COK l) (b : Nat) (hb : b ≤ 60) : ∀ (d i : Nat) (o : List S42), i + d = l.length → o.length = l.length → (∀ j : Nat, j < l.length → cc o j = (if j < i then cc l j + b else cc l j) ∧ pp o j = pp l j) →
    ∃ q r, Ev (fun k => impl_LaterBy.l0 k (b : Int) o (l.length : Int) (i : Int)) (q, r) ∧ (r = true → LATER l q b ∧ COK q) := by
  have n := clen h
  intro d
  induction d with
  | zero =>
    intro i o hi ho hr
    have hq : LATER l o b := ⟨ho, fun j hj => by
      have a := hr j hj
      rw [if_pos (by omega)] at a; exact a⟩
    by_cases c : COK o
    · refine ⟨o, true, ev_succ ?_, fun _ => ⟨hq, c⟩⟩
      simp only [impl_LaterBy.l0]
      exact ev_neg (by omega) (Ev.bind (iCustomersOk_ev o (by omega)) (ev_pos (dec_pos c) (Ev.now _)))
    · refine ⟨[], false, ev_succ ?_, fun x => by simp at x⟩
      simp only [impl_LaterBy.l0]
      exact ev_neg (by omega) (Ev.bind (iCustomersOk_ev o (by omega)) (ev_neg (by rw [dec_neg c]; simp) (Ev.now _)))
  | succ d ih =>
    intro i o hi ho hr
    have a := hr i (by omega)
    rw [if_neg (by omega)] at a
    have ci := cc_in h (i := i) (by omega)
    have e0 : (rd_T42 o (i : Int)).f0 = cc l i := a.1
    have e1 : (rd_T42 o (i : Int)).f1 = pp l i := a.2
    have ew : wrap64 ((rd_T42 o (i : Int)).f0 + (b : Int)) = cc l i + b := by rw [e0, wrap_id (by omega) (by omega)]
    have st := fun j : Nat => sCustomer_set o i j ⟨cc l i + b, pp l i⟩ (by omega)
    obtain ⟨q, r, hq, hr2⟩ := ih (i + 1) (o.set i ⟨cc l i + b, pp l i⟩) (by omega) (by rw [List.length_set]; exact ho) (fun j hj => by
      have x := hr j hj
      show (rd_T42 (o.set i ⟨cc l i + b, pp l i⟩) (j : Int)).f0 = _ ∧ (rd_T42 (o.set i ⟨cc l i + b, pp l i⟩) (j : Int)).f1 = _
      rw [st j]
      by_cases e : j = i
      · subst e
        rw [if_pos rfl, if_pos (by omega)]; exact ⟨rfl, rfl⟩
      · rw [if_neg e]
        by_cases c : j < i
        · rw [if_pos c] at x; rw [if_pos (by omega)]; exact x
        · rw [if_neg c] at x; rw [if_neg (by omega)]; exact x)
    refine ⟨q, r, ev_succ ?_, hr2⟩
    simp only [impl_LaterBy.l0]
    rw [ew, e1, wrap_succ (i := i) (by omega)]
    exact ev_pos (by omega) (ev_pos (by omega) (ev_pos (by omega) hq))
theorem iLaterBy_ev {l : List S42} (h : COK l) (b : Nat) (hb : b ≤ 60) : ∃ q r, Ev (fun k => impl_LaterBy.f k l (b : Int)) (q, r) ∧ (r = true → LATER l q b ∧ COK q) := by
  have n := clen h
  obtain ⟨q, r, hq, hr⟩ := iLaterBy_l0 h b hb l.length 0 l (by omega) rfl (fun j hj => by rw [if_neg (by omega)]; exact ⟨rfl, rfl⟩)
  refine ⟨q, r, ?_, hr⟩
  have hc : impl_Customer.f l = some l := if_pos (by omega)
  unfold impl_LaterBy.f
  refine Ev.bind (iCustomersOk_ev l (by omega)) (ev_pos (dec_pos h) (ev_neg (by omega) (ev_succ ?_)))
  simp only [impl_LaterBy.j0]
  refine ev_neg (by simp; omega) ?_
  rw [hc]
  exact hq
/-- Bytes. -/
def BY (l : List Int) : Prop := l.length ≤ 2000 ∧ ∀ j : Nat, j < l.length → 0 ≤ rd l (j : Int) ∧ rd l (j : Int) ≤ 255
theorem by_of {l : List Int} (h : ∀ x ∈ l, (Lit.int .u8 x).wf = true) (j : Nat) (hj : j < l.length) : 0 ≤ rd l (j : Int) ∧ rd l (j : Int) ≤ 255 := by
  have h1 := h _ (rd_mem hj)
  have h2 : (decide (IntKind.u8.min ≤ rd l (j : Int)) && decide (rd l (j : Int) ≤ IntKind.u8.max)) = true := h1
  have a : IntKind.u8.min = 0 := by decide
  have b : IntKind.u8.max = 255 := by decide
  rw [a, b] at h2
  simpa using h2
theorem xor_nonneg {a b : Int} (ha : 0 ≤ a) (ha2 : a < 4611686018427387904) (hb : 0 ≤ b) (hb2 : b < 4611686018427387904) : 0 ≤ Go.bits .xor .i64 a b := by
  obtain ⟨m, rfl⟩ := Int.eq_ofNat_of_zero_le ha
  obtain ⟨n, rfl⟩ := Int.eq_ofNat_of_zero_le hb
  have hm : m < 2 ^ 62 := by omega
  have hn : n < 2 ^ 62 := by omega
  have hx : m ^^^ n < 2 ^ 62 := Nat.xor_lt_two_pow hm hn
  have e : Go.bits .xor .i64 (m : Int) (n : Int) = Go.IntKind.wrap .i64 ((m ^^^ n : Nat) : Int) := by
    show Go.IntKind.wrap .i64 ((BitVec.ofInt 64 (m : Int) ^^^ BitVec.ofInt 64 (n : Int)).toNat : Int) = _
    rw [BitVec.ofInt_natCast, BitVec.ofInt_natCast, BitVec.toNat_xor, BitVec.toNat_ofNat, BitVec.toNat_ofNat, Nat.mod_eq_of_lt (by omega), Nat.mod_eq_of_lt (by omega)]
  rw [e, Go.IntKind.wrap_i64]
  omega
theorem tmod_in {x n : Int} (h : 0 ≤ x) (hn : 0 < n) : 0 ≤ Int.tmod x n ∧ Int.tmod x n < n := ⟨Int.tmod_nonneg _ h, Int.tmod_lt_of_pos _ hn⟩
theorem rd_by {l : List Int} (h : BY l) (x : Int) (h0 : 0 ≤ x) (h1 : x < (l.length : Int)) : 0 ≤ rd l x ∧ rd l x ≤ 255 := by
  obtain ⟨m, rfl⟩ := Int.eq_ofNat_of_zero_le h0
  exact h.2 m (by omega)
theorem pick_ev {l : List Int} (h : BY l) {p : Int} (h0 : 0 ≤ p) (hp : p ≤ 1073741824) (n : Int) : ∃ v, Ev (fun k => spec_l20Rd_pick.f k l p n) (v, p + 1) ∧ 0 ≤ v ∧ (0 < n → v < n) := by
  unfold spec_l20Rd_pick.f
  rw [wrap_id (x := p + 1) (by omega) (by omega)]
  by_cases hn : n < 1
  · refine ⟨0, ev_pos hn (ev_succ ?_), Int.le_refl _, fun h => h⟩
    simp only [spec_l20Rd_pick.j0]
    exact ev_pos (by simp) (Ev.now _)
  · have hl := h.1
    by_cases hz : l.length = 0
    · refine ⟨0, ev_neg hn (ev_succ ?_), Int.le_refl _, fun h => h⟩
      simp only [spec_l20Rd_pick.j0]
      exact ev_pos (by simp [hz]) (Ev.now _)
    · have e1 : wrap64 (p + 1 - 1) = p := by rw [wrap_id (by omega) (by omega)]; omega
      by_cases hlt : p < (l.length : Int)
      · have hb := rd_by h p h0 hlt
        refine ⟨Int.tmod (wrap64 (rd l p)) n, ev_neg hn (ev_succ ?_), ?_⟩
        · simp only [spec_l20Rd_pick.j0, e1]
          exact ev_neg (by rw [beq_iff_eq]; omega) (ev_pos hlt (ev_pos h0 (ev_neg (by omega) (Ev.now _))))
        · rw [wrap_id (by omega) (by omega)]
          exact ⟨(tmod_in hb.1 (by omega)).1, fun _ => (tmod_in hb.1 (by omega)).2⟩
      · have b1 := tmod_in h0 (n := (l.length : Int)) (by omega)
        have r1 := rd_by h _ b1.1 b1.2
        have e2 : wrap64 (wrap64 (p * 7) + 3) = p * 7 + 3 := by rw [wrap_id (x := p * 7) (by omega) (by omega), wrap_id (by omega) (by omega)]
        have b2 := tmod_in (x := p * 7 + 3) (by omega) (n := (l.length : Int)) (by omega)
        have r2 := rd_by h _ b2.1 b2.2
        have d1 : 0 ≤ Int.tdiv p (l.length : Int) := Int.tdiv_nonneg h0 (by omega)
        have d2 : Int.tdiv p (l.length : Int) ≤ p := Int.tdiv_le_self _ h0
        obtain ⟨x, hx⟩ : ∃ x, x = rd l (Int.tmod p (l.length : Int)) * 131 + rd l (Int.tmod (p * 7 + 3) (l.length : Int)) * 1117 + p * 29 + Int.tdiv p (l.length : Int) * 53 := ⟨_, rfl⟩
        have ex : wrap64 (wrap64 (wrap64 (wrap64 (wrap64 (rd l (Int.tmod p (l.length : Int))) * 131) + wrap64 (wrap64 (rd l (Int.tmod (p * 7 + 3) (l.length : Int))) * 1117)) + wrap64 (p * 29)) + wrap64 (wrap64 (Int.tdiv p (l.length : Int)) * 53)) = x := by
          rw [wrap_id (x := rd l (Int.tmod p (l.length : Int))) (by omega) (by omega), wrap_id (x := rd l (Int.tmod (p * 7 + 3) (l.length : Int))) (by omega) (by omega), wrap_id (x := Int.tdiv p (l.length : Int)) (by omega) (by omega),
            wrap_id (x := rd l (Int.tmod p (l.length : Int)) * 131) (by omega) (by omega), wrap_id (x := rd l (Int.tmod (p * 7 + 3) (l.length : Int)) * 1117) (by omega) (by omega), wrap_id (x := p * 29) (by omega) (by omega),
            wrap_id (x := Int.tdiv p (l.length : Int) * 53) (by omega) (by omega), wrap_id (x := rd l (Int.tmod p (l.length : Int)) * 131 + _) (by omega) (by omega), wrap_id (x := rd l (Int.tmod p (l.length : Int)) * 131 + rd l (Int.tmod (p * 7 + 3) (l.length : Int)) * 1117 + p * 29) (by omega) (by omega), wrap_id (by omega) (by omega), hx]
        have hx0 : 0 ≤ x := by omega
        have hx1 : x < 4611686018427387904 := by omega
        have d3 : 0 ≤ Int.tdiv x 64 := Int.tdiv_nonneg hx0 (by omega)
        have d4 : Int.tdiv x 64 ≤ x := Int.tdiv_le_self _ hx0
        have e3 : wrap64 (Int.tdiv x 64) = Int.tdiv x 64 := wrap_id (by omega) (by omega)
        have hxor := xor_nonneg hx0 hx1 d3 (by omega)
        refine ⟨Int.tmod (Go.bits .xor .i64 x (Int.tdiv x 64)) n, ev_neg hn (ev_succ ?_), (tmod_in hxor (by omega)).1, fun _ => (tmod_in hxor (by omega)).2⟩
        simp only [spec_l20Rd_pick.j0, e1, e2, ex, e3]
        exact ev_neg (by rw [beq_iff_eq]; omega) (ev_neg hlt (ev_neg (by omega) (ev_pos b1.1 (ev_pos b1.2 (ev_pos b2.1 (ev_pos b2.2 (ev_neg (by omega) (Ev.now _))))))))
theorem odd_ev {l : List Int} (h : BY l) {p : Int} (h0 : 0 ≤ p) (hp : p ≤ 1073741824) (n : Int) : ∃ b q, Ev (fun k => spec_l20Rd_odd.f k l p n) (b, q) ∧ 0 ≤ q ∧ q ≤ p + 1 := by
  unfold spec_l20Rd_odd.f
  by_cases hn : n > 0
  · obtain ⟨v, hv, _⟩ := pick_ev h h0 hp n
    exact ⟨_, _, ev_pos hn (Ev.bind hv (Ev.now _)), by simp only; omega, by simp only; omega⟩
  · exact ⟨_, _, ev_neg hn (Ev.now _), h0, by omega⟩
theorem l20Customers_l0 {B : List Int} (h : BY B) (n wide hi : Int) (hw : 1 ≤ wide ∧ wide ≤ 5) (hh : 1 ≤ hi ∧ hi ≤ 9) : ∀ (d : Nat) (o : List S42) (t p : Int), 0 ≤ p → p + 2 * d ≤ 1073741000 → o.length + d ≤ 100 →
    ∃ c q, Ev (fun k => spec_l20Customers.l0 k n o t wide hi (d : Int) B p) (c, q) ∧ c.length ≤ 101 ∧ 0 ≤ q ∧ q ≤ p + 2 * d + 3 := by
  intro d
  induction d with
  | zero =>
    intro o t p h0 hp ho
    obtain ⟨b, q, hb, hq0, hq⟩ := odd_ev h h0 (by omega) n
    cases b with
    | true =>
      obtain ⟨v, hv, hv0, hv3⟩ := pick_ev h hq0 (by omega) 3
      by_cases e0 : v = 0
      · refine ⟨[⟨3, 1⟩, ⟨2, 1⟩], q + 1, ev_succ ?_, by simp, by omega, by omega⟩
        simp only [spec_l20Customers.l0]
        exact ev_neg (by simp) (Ev.bind hb (ev_pos rfl (Ev.bind hv (ev_pos e0 (Ev.now _)))))
      · by_cases e1 : v = 1
        · refine ⟨o ++ [⟨60, 0⟩], q + 1, ev_succ ?_, by simp; omega, by omega, by omega⟩
          simp only [spec_l20Customers.l0]
          exact ev_neg (by simp) (Ev.bind hb (ev_pos rfl (Ev.bind hv (ev_neg e0 (ev_pos e1 (ev_pos (by omega) (Ev.now _)))))))
        · obtain ⟨u, hu, hu0, hu2⟩ := pick_ev h (p := q + 1) (by omega) (by omega) 2
          have hu2 := hu2 (by omega)
          refine ⟨[⟨rd [-1, 61] u, 1⟩], q + 1 + 1, ev_succ ?_, by simp, by omega, by omega⟩
          simp only [spec_l20Customers.l0]
          exact ev_neg (by simp) (Ev.bind hb (ev_pos rfl (Ev.bind hv (ev_neg e0 (ev_neg e1 (Ev.bind (Ev.now _) (Ev.bind hu (ev_pos hu0 (ev_pos (by simp; omega) (Ev.now _))))))))))
    | false =>
      refine ⟨o, q, ev_succ ?_, by omega, by omega, by omega⟩
      simp only [spec_l20Customers.l0]
      exact ev_neg (by simp) (Ev.bind hb (ev_neg (by simp) (Ev.now _)))
  | succ d ih =>
    intro o t p h0 hp ho
    obtain ⟨v, hv, hv0, _⟩ := pick_ev h h0 (by omega) hi
    obtain ⟨u, hu, hu0, _⟩ := pick_ev h (p := p + 1) (by omega) (by omega) (wrap64 (wide + 1))
    obtain ⟨c, q, ht, hl, hq0, hq⟩ := ih (o ++ [⟨t, wrap64 (1 + v)⟩]) (wrap64 (t + u)) (p + 1 + 1) (by omega) (by omega) (by simp; omega)
    refine ⟨c, q, ev_succ ?_, hl, hq0, by omega⟩
    simp only [spec_l20Customers.l0]
    refine ev_pos (by omega) (Ev.bind hv (ev_pos (by omega) (Ev.bind hu ?_)))
    rw [show wrap64 (((d + 1 : Nat) : Int) - 1) = (d : Int) by rw [wrap_id (by omega) (by omega)]; omega]
    exact ht
theorem l20Customers_ev {B : List Int} (h : BY B) {p : Int} (h0 : 0 ≤ p) (hp : p ≤ 1000000) (n : Int) : ∃ c q, Ev (fun k => spec_l20Customers.f k B p n) (c, q) ∧ c.length ≤ 101 ∧ 0 ≤ q ∧ q ≤ p + 30 := by
  unfold spec_l20Customers.f
  obtain ⟨t, ht, _, _⟩ := pick_ev h h0 (by omega) 3
  obtain ⟨w, hw, hw0, hw5⟩ := pick_ev h (p := p + 1) (by omega) (by omega) 5
  obtain ⟨v, hv, hv0, hv2⟩ := pick_ev h (p := p + 1 + 1) (by omega) (by omega) 2
  obtain ⟨u, hu, hu0, hu9⟩ := pick_ev h (p := p + 1 + 1 + 1) (by omega) (by omega) 9
  have hw5 := hw5 (by omega)
  have hh : 1 ≤ rd [3, 9] v ∧ rd [3, 9] v ≤ 9 := by
    have : v = 0 ∨ v = 1 := by have := hv2 (by omega); omega
    rcases this with rfl | rfl <;> decide
  have hv2 := hv2 (by omega)
  have hu9 := hu9 (by omega)
  obtain ⟨d, rfl⟩ := Int.eq_ofNat_of_zero_le hu0
  obtain ⟨c, q, hc, hl, hq0, hq⟩ := l20Customers_l0 h n (wrap64 (1 + w)) _ (by rw [wrap_id (by omega) (by omega)]; omega) hh d [] t (p + 1 + 1 + 1 + 1) (by omega) (by omega) (by simp; omega)
  exact ⟨c, q, Ev.bind ht (Ev.bind hw (Ev.bind (Ev.now _) (Ev.bind hv (ev_pos hv0 (ev_pos (by simp; omega) (Ev.bind hu hc)))))), hl, hq0, by omega⟩
theorem open_ev {l : List Int} (h : ∀ x ∈ l, (Lit.int .u8 x).wf = true) : ∃ q, BY q ∧ Ev (fun _ => spec_l20Open.f l) (q, 0) := by
  unfold spec_l20Open.f
  by_cases h1 : (l.length : Int) > 2000
  · refine ⟨l.take 2000, ⟨by rw [List.length_take]; omega, fun j hj => ?_⟩, ev_pos h1 (ev_pos (by omega) (Ev.now _))⟩
    rw [List.length_take] at hj
    rw [rd_take _ _ _ (by omega)]
    exact by_of h j (by omega)
  · exact ⟨l, ⟨by omega, fun j hj => by_of h j hj⟩, ev_neg h1 (Ev.now _)⟩
theorem alive_ev : Ev (fun k => laws_alive.f k) true := by
  unfold laws_alive.f
  refine Ev.bind (iCustomersOk_ev _ (by decide)) (ev_pos (dec_pos ?_) (Ev.bind (iCustomersOk_ev _ (by decide)) (ev_some ?_)))
  · refine ⟨fun j _ hj => ?_, by decide⟩
    obtain rfl : j = 0 := by simp at hj; omega
    exact ⟨by decide, by decide, fun h => absurd h (by decide)⟩
  · rw [dec_neg]
    · rfl
    · intro h
      exact absurd (h.1 0 (Nat.le_refl _) (by decide)).2.1.1 (by decide)
theorem FnWorkArea_l0 {l : List S42} (h : COK l) {q : List S42} {r : Bool} (hq : Ev (fun k => impl_LaterBy.f k l 2) (q, r)) (hr : r = true → LATER l q 2 ∧ COK q) : ∀ (d i : Nat), i + d = l.length →
    Ev (fun k => laws_FnWorkArea.l0 k l (WBV l) (sg (fun j => Int.tdiv (pp l j * (pp l j + 1)) 2) i) (i : Int)) true := by
  have n := clen h
  have bnd : ∀ i, i ≤ l.length → 0 ≤ sg (fun j => Int.tdiv (pp l j * (pp l j + 1)) 2) i ∧ sg (fun j => Int.tdiv (pp l j * (pp l j + 1)) 2) i ≤ 90 * (i : Int) := by
    intro i hi
    have := sg_in (f := fun j => Int.tdiv (pp l j * (pp l j + 1)) 2) (A := 0) (B := 90) i (fun j hj => (wb_in h j (by omega)).2.2)
    omega
  intro d
  induction d with
  | zero =>
    intro i hi
    obtain rfl : i = l.length := by omega
    have ge : sg (fun j => Int.tdiv (pp l j * (pp l j + 1)) 2) l.length ≤ WBV l := by
      rw [WBV_pos h]
      refine sg_le _ (fun j hj => ?_)
      have := wb_in h j hj
      unfold wb; omega
    refine ev_succ ?_
    simp only [laws_FnWorkArea.l0]
    refine ev_neg (by omega) (Ev.bind hq (Ev.bind (iWorkBy_ev l (by omega)) (ev_pos rfl (ev_pos ge ?_))))
    cases r with
    | false => exact ev_neg (by simp) (Ev.bind alive_ev (Ev.now _))
    | true =>
      obtain ⟨hl, hc⟩ := hr rfl
      have e : WAV q = WBV l := by rw [WAV_WBV hc, WBV_later hl h hc]
      have wq := iWorkArea_ev q (by rw [hl.1]; omega)
      rw [e] at wq
      exact ev_pos rfl (Ev.bind wq (ev_pos rfl (Ev.bind alive_ev (Ev.now _))))
  | succ d ih =>
    intro i hi
    have a := wb_in h i (by omega)
    have b := bnd (i + 1) (by omega)
    have p := pp_in h (i := i) (by omega)
    have pd : (rd_T42 l (i : Int)).f1 = pp l i := rfl
    have s : sg (fun j => Int.tdiv (pp l j * (pp l j + 1)) 2) (i + 1) = sg (fun j => Int.tdiv (pp l j * (pp l j + 1)) 2) i + Int.tdiv (pp l i * (pp l i + 1)) 2 := rfl
    refine ev_succ ?_
    simp only [laws_FnWorkArea.l0, pd]
    rw [wrap_succ (i := i) (by omega), wrap_id (x := pp l i + 1) (by omega) (by omega), wrap_id (x := pp l i * (pp l i + 1)) (by omega) (by omega), wrap_id (x := Int.tdiv _ 2) (by omega) (by omega), ← s, wrap_id (x := sg _ (i + 1)) (by omega) (by omega)]
    exact ev_pos (by omega) (ev_pos (by omega) (ih (i + 1) (by omega)))
theorem FnWorkArea : laws_FnWorkArea.Pure := by
  intro l0 _ _ hb
  refine Ev.rounds ?_
  unfold laws_FnWorkArea.f spec_DrawWorkArea.f
  by_cases h : (l0.length : Int) > 1048576
  · exact ev_pos h (Ev.now _)
  · obtain ⟨B, hB, ho⟩ := open_ev hb
    obtain ⟨l, q, hc, hl, _, _⟩ := l20Customers_ev hB (p := 0) (by omega) (by omega) 9
    refine ev_neg h (Ev.bind (Ev.bind ho (Ev.bind hc (Ev.now _))) ?_)
    refine Ev.bind (iWorkArea_ev l (by omega)) (Ev.bind (sWorkArea_ev l (by omega)) (ev_pos rfl ?_))
    by_cases ok : COK l
    · have wn := wbs_in ok l.length (Nat.le_refl _)
      rw [← WBV_pos ok] at wn
      obtain ⟨q, r, hq, hr⟩ := iLaterBy_ev ok 2 (by omega)
      rw [WAV_WBV ok]
      exact ev_neg (by omega) (FnWorkArea_l0 ok hq hr l.length 0 (by omega))
    · rw [WAV_neg ok]
      exact ev_pos (by omega) (ev_pos rfl (Ev.bind alive_ev (Ev.now _)))
end Go.Proofs.Ytlainmahnfnhkaa.Pure
