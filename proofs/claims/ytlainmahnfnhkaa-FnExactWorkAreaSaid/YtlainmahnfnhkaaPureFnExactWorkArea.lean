/- The law FnExactWorkArea holds for every input; nothing is assumed. -/
import Derived.Test.YtlainmahnfnhkaaQFnExactWorkAreax5
namespace Go.Proofs.Ytlainmahnfnhkaa.Pure
open Go.RowKit Go.Proofs.Ytlainmahnfnhkaa.PFnExactWorkArea Go.Proofs.YtlainmahnfnhkaaW.PrintWords Go.Proofs.YtlainmahnfnhkaaW.PrintLast Go.Proofs.YtlainmahnfnhkaaW.PrintMore
set_option linter.unusedVariables false
set_option linter.unusedSimpArgs false
theorem ev_succ {α : Type} {g : Nat → Option α} {r : α} (h : Ev (fun k => g (k + 1)) r) : Ev g r := Ev.step (fun _ => rfl) h
theorem ev_pos {α : Type} {c : Prop} [Decidable c] {f g : Nat → Option α} {r : α} (h : c) (k : Ev f r) : Ev (fun n => if c then f n else g n) r := Ev.congr (fun _ => if_pos h) k
theorem ev_neg {α : Type} {c : Prop} [Decidable c] {f g : Nat → Option α} {r : α} (h : ¬c) (k : Ev g r) : Ev (fun n => if c then f n else g n) r := Ev.congr (fun _ => if_neg h) k
theorem ev_some {α : Type} {x r : α} (h : x = r) : Ev (fun _ => some x) r := h ▸ Ev.now x
theorem ev_to {α : Type} {g : Nat → Option α} {a r : α} (h : Ev g a) (e : a = r) : Ev g r := e ▸ h
/-- Whether P. -/
noncomputable def dec (P : Prop) : Bool := @decide P (Classical.propDecidable P)
theorem dec_iff {P : Prop} : dec P = true ↔ P := @decide_eq_true_iff P (Classical.propDecidable P)
theorem dec_pos {P : Prop} (h : P) : dec P = true := dec_iff.2 h
theorem dec_neg {P : Prop} (h : ¬P) : dec P = false := by
  cases e : dec P
  · rfl
  · exact absurd (dec_iff.1 e) h
theorem dec_congr {P Q : Prop} (h : P ↔ Q) : dec P = dec Q := by rw [propext h]
theorem dec_of {P : Prop} [Decidable P] : decide P = dec P := by
  by_cases h : P
  · rw [dec_pos h, decide_eq_true h]
  · rw [dec_neg h, decide_eq_false h]
theorem dec_bool {b : Bool} : b = dec (b = true) := by
  cases b
  · exact (dec_neg (by simp)).symm
  · exact (dec_pos rfl).symm
/-- From i on: at i, and from i + 1 on. -/
theorem from_step {i n : Nat} {Q : Nat → Prop} (h : i < n) : (∀ j, i ≤ j → j < n → Q j) ↔ Q i ∧ ∀ j, i + 1 ≤ j → j < n → Q j := by
  constructor
  · exact fun a => ⟨a i (Nat.le_refl _) h, fun j h1 h2 => a j (by omega) h2⟩
  · intro a j h1 h2
    by_cases e : j = i
    · exact e ▸ a.1
    · exact a.2 j (by omega) h2
theorem from_end {n : Nat} {Q : Nat → Prop} : ∀ j, n ≤ j → j < n → Q j := fun j h1 h2 => by omega
theorem wrap_id {x : Int} (h0 : -9223372036854775808 ≤ x) (h1 : x ≤ 9223372036854775807) : wrap64 x = x := by unfold wrap64; omega
theorem wrap_succ {i : Nat} (h : i ≤ 9223372036854775806) : wrap64 ((i : Int) + 1) = ((i + 1 : Nat) : Int) := by unfold wrap64; omega
theorem wrap_pred {i : Nat} (h : i ≤ 9223372036854775806) : wrap64 ((i : Int) - 1) = (i : Int) - 1 := by unfold wrap64; omega
/-- The bounds of a number of the kind int. -/
def I64 (x : Int) : Prop := -9223372036854775808 ≤ x ∧ x ≤ 9223372036854775807
theorem i64_wf {x : Int} (h : (Lit.int .i64 x).wf = true) : I64 x := by
  have h' : (decide (IntKind.i64.min ≤ x) && decide (x ≤ IntKind.i64.max)) = true := h
  have a : IntKind.i64.min = -9223372036854775808 := by decide
  have b : IntKind.i64.max = 9223372036854775807 := by decide
  rw [a, b] at h'
  simpa [I64] using h'
theorem sCustomer_nat (l : List S42) (i : Nat) : rd_T42 l (i : Int) = l.getD i z42 := rfl
theorem sCustomer_get {l : List S42} {i : Nat} (h : i < l.length) : rd_T42 l (i : Int) = l[i] := by
  rw [sCustomer_nat, List.getD_eq_getElem?_getD, List.getElem?_eq_getElem h]; rfl
theorem sCustomer_set (l : List S42) (i j : Nat) (v : S42) (h : i < l.length) : rd_T42 (l.set i v) (j : Int) = if j = i then v else rd_T42 l (j : Int) := by
  rw [sCustomer_nat, sCustomer_nat, List.getD_eq_getElem?_getD, List.getElem?_set]
  by_cases e : i = j
  · subst e; rw [if_pos rfl, if_pos h, if_pos rfl]; rfl
  · rw [if_neg e, if_neg (fun x => e x.symm), ← List.getD_eq_getElem?_getD]
theorem sCustomer_app (l : List S42) (v : S42) (j : Nat) : rd_T42 (l ++ [v]) (j : Int) = if j < l.length then rd_T42 l (j : Int) else if j = l.length then v else z42 := by
  rw [sCustomer_nat, sCustomer_nat, List.getD_eq_getElem?_getD, List.getD_eq_getElem?_getD, List.getElem?_append]
  by_cases h : j < l.length
  · rw [if_pos h, if_pos h]
  · rw [if_neg h, if_neg h]
    by_cases e : j = l.length
    · subst e; rw [if_pos rfl]; simp
    · rw [if_neg e, List.getElem?_eq_none (by simp; omega)]; rfl
theorem sCustomer_take (l : List S42) (n j : Nat) (h : j < n) : rd_T42 (l.take n) (j : Int) = rd_T42 l (j : Int) := by
  rw [sCustomer_nat, sCustomer_nat, List.getD_eq_getElem?_getD, List.getElem?_take, if_pos h, ← List.getD_eq_getElem?_getD]
theorem sCustomer_drop (l : List S42) (n j : Nat) : rd_T42 (l.drop n) (j : Int) = rd_T42 l ((n + j : Nat) : Int) := by
  rw [sCustomer_nat, sCustomer_nat, List.getD_eq_getElem?_getD, List.getElem?_drop, ← List.getD_eq_getElem?_getD]
theorem sCustomer_ext {a b : List S42} (hl : a.length = b.length) (h : ∀ j : Nat, j < a.length → rd_T42 a (j : Int) = rd_T42 b (j : Int)) : a = b := by
  refine List.ext_getElem hl fun j h1 h2 => ?_
  have := h j h1
  rw [sCustomer_get h1, sCustomer_get h2] at this
  exact this
def CIn (l : List S42) (j : Nat) : Prop := (0 ≤ (rd_T42 l (j : Int)).f0 ∧ (rd_T42 l (j : Int)).f0 ≤ 60) ∧ (1 ≤ (rd_T42 l (j : Int)).f1 ∧ (rd_T42 l (j : Int)).f1 ≤ 9) ∧ (0 < j → (rd_T42 l ((j : Int) - 1)).f0 ≤ (rd_T42 l (j : Int)).f0)
/-- Customers. -/
def COK (l : List S42) : Prop := (∀ j : Nat, 0 ≤ j → j < l.length → CIn l j) ∧ (l.length : Int) ≤ 8
def cc (l : List S42) (i : Nat) : Int := (rd_T42 l (i : Int)).f0
def pp (l : List S42) (i : Nat) : Int := (rd_T42 l (i : Int)).f1
theorem cc_in {l : List S42} (h : COK l) {i : Nat} (hi : i < l.length) : 0 ≤ cc l i ∧ cc l i ≤ 60 := (h.1 i (Nat.zero_le _) hi).1
theorem pp_in {l : List S42} (h : COK l) {i : Nat} (hi : i < l.length) : 1 ≤ pp l i ∧ pp l i ≤ 9 := (h.1 i (Nat.zero_le _) hi).2.1
theorem cc_step {l : List S42} (h : COK l) {i : Nat} (hi : i + 1 < l.length) : cc l i ≤ cc l (i + 1) := by
  have := (h.1 (i + 1) (Nat.zero_le _) hi).2.2 (by omega)
  rw [show (((i + 1 : Nat) : Int) - 1) = (i : Int) by omega] at this
  exact this
theorem cc_mono {l : List S42} (h : COK l) (j : Nat) : ∀ i : Nat, i ≤ j → j < l.length → cc l i ≤ cc l j := by
  induction j with
  | zero => intro i hi _; obtain rfl : i = 0 := by omega
            exact Int.le_refl _
  | succ j ih =>
    intro i hi hj
    by_cases e : i = j + 1
    · subst e; exact Int.le_refl _
    · have := ih i (by omega) (by omega)
      have := cc_step h hj
      omega
theorem clen {l : List S42} (h : COK l) : l.length ≤ 8 := by have := h.2; omega
/-- f 0 to f (n - 1), added. -/
def sg (f : Nat → Int) : Nat → Int
  | 0 => 0
  | n + 1 => sg f n + f n
theorem sg_congr {f g : Nat → Int} : ∀ n : Nat, (∀ i, i < n → f i = g i) → sg f n = sg g n
  | 0, _ => rfl
  | n + 1, h => by
    simp only [sg]
    rw [sg_congr n (fun i hi => h i (by omega)), h n (by omega)]
theorem sg_le {f g : Nat → Int} : ∀ n : Nat, (∀ i, i < n → f i ≤ g i) → sg f n ≤ sg g n
  | 0, _ => Int.le_refl _
  | n + 1, h => by
    have := sg_le n (fun i hi => h i (by omega))
    have := h n (by omega)
    simp only [sg]; omega
theorem sg_in {f : Nat → Int} {A B : Int} : ∀ n : Nat, (∀ i, i < n → A ≤ f i ∧ f i ≤ B) → A * (n : Int) ≤ sg f n ∧ sg f n ≤ B * (n : Int)
  | 0, _ => by simp [sg]
  | n + 1, h => by
    have a := sg_in n (fun i hi => h i (by omega))
    have b := h n (by omega)
    have e1 : A * ((n + 1 : Nat) : Int) = A * (n : Int) + A := by rw [Int.natCast_add, Int.mul_add]; simp
    have e2 : B * ((n + 1 : Nat) : Int) = B * (n : Int) + B := by rw [Int.natCast_add, Int.mul_add]; simp
    simp only [sg]
    rw [e1, e2]; omega
theorem sg_add (f g : Nat → Int) : ∀ n : Nat, sg (fun i => f i + g i) n = sg f n + sg g n
  | 0 => rfl
  | n + 1 => by simp only [sg]; rw [sg_add f g n]; omega
theorem sg_sub (f g : Nat → Int) : ∀ n : Nat, sg (fun i => f i - g i) n = sg f n - sg g n
  | 0 => rfl
  | n + 1 => by simp only [sg]; rw [sg_sub f g n]; omega
theorem sg_zero : ∀ n : Nat, sg (fun _ => 0) n = 0
  | 0 => rfl
  | n + 1 => by simp only [sg]; rw [sg_zero n]; rfl
theorem sg_swap (f : Nat → Nat → Int) (n : Nat) : ∀ m : Nat, sg (fun t => sg (fun i => f t i) n) m = sg (fun i => sg (fun t => f t i) m) n
  | 0 => by simp only [sg]; exact (sg_zero n).symm
  | m + 1 => by
    simp only [sg]
    rw [sg_swap f n m, ← sg_add]
theorem sg_split (f : Nat → Int) (n : Nat) : ∀ m : Nat, sg f (n + m) = sg f n + sg (fun i => f (n + i)) m
  | 0 => by simp [sg]
  | m + 1 => by
    show sg f (n + m) + f (n + m) = _
    simp only [sg]
    rw [sg_split f n m]; omega
theorem sg_mem {f : Nat → Int} : ∀ (n i : Nat), i < n → (∀ j, j < n → 0 ≤ f j) → f i ≤ sg f n
  | n + 1, i, hi, h => by
    simp only [sg]
    by_cases e : i = n
    · subst e
      have := (sg_in (A := 0) (B := sg f i) i (fun j hj => ⟨h j (by omega), sg_mem i j hj (fun k hk => h k (by omega))⟩)).1
      omega
    · have := sg_mem n i (by omega) (fun k hk => h k (by omega))
      have := h n (by omega)
      omega
theorem sg_nonneg {f : Nat → Int} : ∀ n : Nat, (∀ j, j < n → 0 ≤ f j) → 0 ≤ sg f n
  | 0, _ => Int.le_refl _
  | n + 1, h => by
    have := sg_nonneg n (fun j hj => h j (by omega))
    have := h n (by omega)
    simp only [sg]; omega
/-- One unit at k. -/
theorem sg_unit (k : Nat) (x : Int) : ∀ n : Nat, sg (fun i => if i = k then x else 0) n = if k < n then x else 0
  | 0 => rfl
  | n + 1 => by
    simp only [sg]
    rw [sg_unit k x n]
    by_cases e : n = k
    · rw [if_neg (by omega), if_pos e, if_pos (by omega)]; omega
    · rw [if_neg e]
      by_cases c : k < n
      · rw [if_pos c, if_pos (by omega)]; omega
      · rw [if_neg c, if_neg (by omega)]; rfl
theorem mx_lt {a b : Int} (h : a < b) : mx a b = b := if_pos h
theorem mx_ge {a b : Int} (h : ¬ a < b) : mx a b = a := if_neg h
theorem mx_le {a b c : Int} : mx a b ≤ c ↔ a ≤ c ∧ b ≤ c := by unfold mx; split <;> omega
theorem le_mx {a b : Int} : a ≤ mx a b ∧ b ≤ mx a b := by unfold mx; split <;> omega
theorem mx_max (a b : Int) : mx a b = max a b := by unfold mx; split <;> omega
theorem rd_nat (l : List Int) (i : Nat) : rd l (i : Int) = l.getD i 0 := rfl
theorem rd_set (l : List Int) (i j : Nat) (v : Int) (h : i < l.length) : rd (l.set i v) (j : Int) = if j = i then v else rd l (j : Int) := by
  rw [rd_nat, rd_nat, List.getD_eq_getElem?_getD, List.getElem?_set]
  by_cases e : i = j
  · subst e; rw [if_pos rfl, if_pos h, if_pos rfl]; rfl
  · rw [if_neg e, if_neg (fun x => e x.symm), ← List.getD_eq_getElem?_getD]
theorem rd_app (l : List Int) (v : Int) (j : Nat) : rd (l ++ [v]) (j : Int) = if j < l.length then rd l (j : Int) else if j = l.length then v else 0 := by
  rw [rd_nat, rd_nat, List.getD_eq_getElem?_getD, List.getD_eq_getElem?_getD, List.getElem?_append]
  by_cases h : j < l.length
  · rw [if_pos h, if_pos h]
  · rw [if_neg h, if_neg h]
    by_cases e : j = l.length
    · subst e; rw [if_pos rfl]; simp
    · rw [if_neg e, List.getElem?_eq_none (by simp; omega)]; rfl
theorem rd_take (l : List Int) (n j : Nat) (h : j < n) : rd (l.take n) (j : Int) = rd l (j : Int) := by
  rw [rd_nat, rd_nat, List.getD_eq_getElem?_getD, List.getElem?_take, if_pos h, ← List.getD_eq_getElem?_getD]
theorem rd_ext {a b : List Int} (hl : a.length = b.length) (h : ∀ j : Nat, j < a.length → rd a (j : Int) = rd b (j : Int)) : a = b := by
  refine List.ext_getElem hl fun j h1 h2 => ?_
  have := h j h1
  rw [rd_nat, rd_nat, List.getD_eq_getElem?_getD, List.getD_eq_getElem?_getD, List.getElem?_eq_getElem h1, List.getElem?_eq_getElem h2] at this
  exact this
theorem rd_out (l : List Int) (j : Nat) (h : l.length ≤ j) : rd l (j : Int) = 0 := by
  rw [rd_nat, List.getD_eq_getElem?_getD, List.getElem?_eq_none h]; rfl
theorem rd_mem {l : List Int} {j : Nat} (h : j < l.length) : rd l (j : Int) ∈ l := by
  rw [rd_nat, List.getD_eq_getElem?_getD, List.getElem?_eq_getElem h]; exact List.getElem_mem h
theorem rd_repl (n j : Nat) : rd (List.replicate n (0 : Int)) (j : Int) = 0 := by
  rw [rd_nat, List.getD_eq_getElem?_getD, List.getElem?_replicate]; split <;> rfl
/-- A row out of a function. -/
def tab (n : Nat) (f : Nat → Int) : List Int := (List.range n).map f
theorem tab_len (n : Nat) (f : Nat → Int) : (tab n f).length = n := by simp [tab]
theorem rd_tab (n : Nat) (f : Nat → Int) (i : Nat) (h : i < n) : rd (tab n f) (i : Int) = f i := by
  rw [rd_nat, List.getD_eq_getElem?_getD]
  unfold tab
  rw [List.getElem?_map, List.getElem?_range h]; rfl
theorem eq_tab {l : List Int} {n : Nat} {f : Nat → Int} (hl : l.length = n) (h : ∀ i : Nat, i < n → rd l (i : Int) = f i) : l = tab n f :=
  rd_ext (by rw [tab_len, hl]) (fun j hj => by rw [h j (by omega), rd_tab n f j (by omega)])
theorem tab_congr {n : Nat} {f g : Nat → Int} (h : ∀ i, i < n → f i = g i) : tab n f = tab n g :=
  eq_tab (tab_len n f) (fun i hi => by rw [rd_tab n f i hi, h i hi])
def up (A : Nat → Int) (k : Nat) (x : Int) : Nat → Int := fun i => if i = k then x else A i

theorem up_lt (A : Nat → Int) (k : Nat) (x : Int) (i : Nat) (h : i ≠ k) : up A k x i = A i := by unfold up; rw [if_neg h]
theorem up_at (A : Nat → Int) (k : Nat) (x : Int) : up A k x k = x := by unfold up; rw [if_pos rfl]
/-- Who is served by a rule, of the first ones. -/
def pk (l : List S42) (lf : Nat → Int) (t r : Int) : Nat → Int
  | 0 => -1
  | i + 1 => if cc l i > t ∨ lf i = 0 then pk l lf t r i
    else if pk l lf t r i < 0 ∨ r = 1 ∨ (r = 2 ∧ lf i < lf (pk l lf t r i).toNat) ∨ (r = 3 ∧ lf i > lf (pk l lf t r i).toNat) then (i : Int) else pk l lf t r i
theorem pk_in (l : List S42) (lf : Nat → Int) (t r : Int) : ∀ i : Nat, -1 ≤ pk l lf t r i ∧ pk l lf t r i < (i : Int)
  | 0 => by simp [pk]
  | i + 1 => by
    have := pk_in l lf t r i
    simp only [pk]; split
    · omega
    · split <;> omega
theorem pk_there (l : List S42) (lf : Nat → Int) (t r : Int) : ∀ i j : Nat, pk l lf t r i = (j : Int) → cc l j ≤ t ∧ lf j ≠ 0
  | 0, j, h => by simp only [pk] at h; omega
  | i + 1, j, h => by
    simp only [pk] at h
    by_cases c : cc l i > t ∨ lf i = 0
    · rw [if_pos c] at h; exact pk_there l lf t r i j h
    · rw [if_neg c] at h
      split at h
      · obtain rfl : i = j := by omega
        exact ⟨by omega, fun e => c (.inr e)⟩
      · exact pk_there l lf t r i j h
theorem pk_none (l : List S42) (lf : Nat → Int) (t r : Int) : ∀ i : Nat, pk l lf t r i < 0 → ∀ j, j < i → cc l j > t ∨ lf j = 0
  | i + 1, h, j, hj => by
    simp only [pk] at h
    by_cases c : cc l i > t ∨ lf i = 0
    · rw [if_pos c] at h
      by_cases e : j = i
      · exact e ▸ c
      · exact pk_none l lf t r i h j (by omega)
    · rw [if_neg c] at h
      split at h
      · omega
      · rename_i hc; exact absurd (.inl h) hc
theorem pk_congr (l : List S42) {lf lg : Nat → Int} (t r : Int) : ∀ i : Nat, (∀ j, j < i → lf j = lg j) → pk l lf t r i = pk l lg t r i
  | 0, _ => rfl
  | i + 1, h => by
    have e := pk_congr l t r i (fun j hj => h j (by omega))
    have b := pk_in l lg t r i
    simp only [pk]
    rw [e, h i (by omega)]
    by_cases c : pk l lg t r i < 0
    · simp only [c, true_or, if_true]
    · rw [h (pk l lg t r i).toNat (by omega)]
/-- What is left at the time t by a rule. -/
def lfs (l : List S42) (r : Int) : Nat → Nat → Int
  | 0 => pp l
  | t + 1 => if pk l (lfs l r t) (t : Int) r l.length ≥ 0 then up (lfs l r t) (pk l (lfs l r t) (t : Int) r l.length).toNat (lfs l r t (pk l (lfs l r t) (t : Int) r l.length).toNat - 1) else lfs l r t
/-- Who is served in the unit t by a rule. -/
def ow (l : List S42) (r : Int) (t : Nat) : Int := pk l (lfs l r t) (t : Int) r l.length
theorem lfs_pos {l : List S42} {r : Int} {t w : Nat} (h : ow l r t = (w : Int)) : lfs l r (t + 1) = up (lfs l r t) w (lfs l r t w - 1) := by
  have h' : pk l (lfs l r t) (t : Int) r l.length = (w : Int) := h
  simp only [lfs]
  rw [h', if_pos (by omega), Int.toNat_natCast]
theorem lfs_neg {l : List S42} {r : Int} {t : Nat} (h : ow l r t < 0) : lfs l r (t + 1) = lfs l r t := by
  have h' : pk l (lfs l r t) (t : Int) r l.length < 0 := h
  simp only [lfs]
  rw [if_neg (by omega)]
theorem lfs_in {l : List S42} (h : COK l) (r : Int) : ∀ (t i : Nat), i < l.length → 0 ≤ lfs l r t i ∧ lfs l r t i ≤ pp l i
  | 0, i, hi => by have := pp_in h hi; simp only [lfs]; omega
  | t + 1, i, hi => by
    have a := lfs_in h r t i hi
    by_cases c : ow l r t < 0
    · rw [lfs_neg c]; exact a
    · obtain ⟨w, hw⟩ := Int.eq_ofNat_of_zero_le (show 0 ≤ ow l r t by omega)
      rw [lfs_pos hw]
      have b := pk_there l (lfs l r t) (t : Int) r l.length w hw
      unfold up
      split
      · rename_i e; subst e; omega
      · exact a
/-- The time of coming, and what this one and all behind need. -/
def llAt (l : List S42) (i : Nat) : Int := cc l i + (sg (pp l) l.length - sg (pp l) i)
def LLa (l : List S42) : Nat → Int
  | 0 => 0
  | i + 1 => mx (LLa l i) (llAt l i)
/-- The least time at which all may be served. -/
def LLV (l : List S42) : Int := LLa l l.length
theorem pn_in {l : List S42} (h : COK l) (i : Nat) (hi : i ≤ l.length) : (i : Int) ≤ sg (pp l) i ∧ sg (pp l) i ≤ 9 * (i : Int) := by
  have := sg_in (f := pp l) (A := 1) (B := 9) i (fun j hj => pp_in h (by omega))
  omega
theorem pn_split (l : List S42) (i : Nat) (hi : i ≤ l.length) : sg (pp l) l.length = sg (pp l) i + sg (fun j => pp l (i + j)) (l.length - i) := by
  have := sg_split (pp l) i (l.length - i)
  rw [show i + (l.length - i) = l.length by omega] at this
  exact this
theorem llAt_in {l : List S42} (h : COK l) (i : Nat) (hi : i < l.length) : 0 ≤ llAt l i ∧ llAt l i ≤ 132 := by
  have n := clen h
  have c := cc_in h hi
  have s := pn_split l i (by omega)
  have b := sg_in (f := fun j => pp l (i + j)) (A := 1) (B := 9) (l.length - i) (fun j hj => pp_in h (by omega))
  unfold llAt; omega
theorem LLa_in {l : List S42} (h : COK l) : ∀ i : Nat, i ≤ l.length → 0 ≤ LLa l i ∧ LLa l i ≤ 132
  | 0, _ => by simp [LLa]
  | i + 1, hi => by
    have a := LLa_in h i (by omega)
    have b := llAt_in h i (by omega)
    simp only [LLa, mx]; split <;> omega
theorem LLV_in {l : List S42} (h : COK l) : 0 ≤ LLV l ∧ LLV l ≤ 132 := LLa_in h l.length (Nat.le_refl _)
theorem LLa_ge (l : List S42) : ∀ (n i : Nat), i < n → llAt l i ≤ LLa l n
  | n + 1, i, hi => by
    have m := le_mx (a := LLa l n) (b := llAt l n)
    show llAt l i ≤ mx (LLa l n) (llAt l n)
    by_cases e : i = n
    · subst e; omega
    · have := LLa_ge l n i (by omega)
      omega
theorem LLa_le {l : List S42} {M : Int} (h0 : 0 ≤ M) : ∀ n : Nat, (∀ i, i < n → llAt l i ≤ M) → LLa l n ≤ M
  | 0, _ => h0
  | n + 1, h => mx_le.2 ⟨LLa_le h0 n (fun i hi => h i (by omega)), h n (by omega)⟩
/-- The order by a rule. -/
def ORDL (l : List S42) (r : Int) : List Int := tab (LLV l).toNat (ow l r)
/-- What OrderBy answers. -/
noncomputable def ORDV (l : List S42) (r : Int) : List Int := @ite _ (COK l ∧ 0 ≤ r ∧ r ≤ 3) (Classical.propDecidable _) (ORDL l r) []
theorem ORDV_pos {l : List S42} {r : Int} (h : COK l) (h0 : 0 ≤ r) (h1 : r ≤ 3) : ORDV l r = ORDL l r := by unfold ORDV; exact if_pos ⟨h, h0, h1⟩
theorem ORDV_neg {l : List S42} {r : Int} (h : ¬(COK l ∧ 0 ≤ r ∧ r ≤ 3)) : ORDV l r = [] := by unfold ORDV; exact if_neg h
theorem ORDV_len (l : List S42) (r : Int) : (ORDV l r).length ≤ 132 := by
  by_cases h : COK l ∧ 0 ≤ r ∧ r ≤ 3
  · rw [ORDV_pos h.1 h.2.1 h.2.2]
    unfold ORDL
    rw [tab_len]
    have := LLV_in h.1
    omega
  · rw [ORDV_neg h]; simp
theorem ord_snoc {l : List S42} {r : Int} {o : List Int} (h : ∀ j : Nat, j < o.length → rd o (j : Int) = ow l r j) (w : Int) (hw : ow l r o.length = w) : ∀ j : Nat, j < (o ++ [w]).length → rd (o ++ [w]) (j : Int) = ow l r j := by
  intro j hj
  rw [rd_app]
  by_cases e : j < o.length
  · rw [if_pos e]; exact h j e
  · have ej : j = o.length := by simp at hj; omega
    rw [if_neg e, if_pos ej, ej, hw]
theorem lfs_row {l : List S42} {r : Int} {t w : Nat} {x : List Int} (hw : ow l r t = (w : Int)) (hx : x.length = l.length) (hwl : w < l.length) (h : ∀ i : Nat, i < l.length → rd x (i : Int) = lfs l r t i) :
    ∀ i : Nat, i < l.length → rd (x.set w (lfs l r t w - 1)) (i : Int) = lfs l r (t + 1) i := by
  intro i hi
  rw [rd_set _ _ _ _ (by omega), lfs_pos hw]
  unfold up
  by_cases e : i = w
  · rw [if_pos e, if_pos e]
  · rw [if_neg e, if_neg e]; exact h i hi
/-- How often i is served in the first t units. -/
def cnt (o : List Int) (i : Int) : Nat → Int
  | 0 => 0
  | t + 1 => cnt o i t + if rd o (t : Int) = i then 1 else 0
/-- The end of the last unit of i in the first t units. -/
def lst (o : List Int) (i : Int) : Nat → Int
  | 0 => 0
  | t + 1 => if rd o (t : Int) = i then (t : Int) + 1 else lst o i t
theorem cnt_mono (o : List Int) (i : Int) (s : Nat) : ∀ t : Nat, s ≤ t → cnt o i s ≤ cnt o i t
  | 0, h => by obtain rfl : s = 0 := by omega
               exact Int.le_refl _
  | t + 1, h => by
    by_cases e : s = t + 1
    · subst e; exact Int.le_refl _
    · have := cnt_mono o i s t (by omega)
      simp only [cnt]; split <;> omega
theorem cnt_in (o : List Int) (i : Int) (t : Nat) : 0 ≤ cnt o i t ∧ cnt o i t ≤ (t : Int) := by
  induction t with
  | zero => simp [cnt]
  | succ t ih => simp only [cnt]; split <;> omega
theorem lst_in (o : List Int) (i : Int) (t : Nat) : 0 ≤ lst o i t ∧ lst o i t ≤ (t : Int) := by
  induction t with
  | zero => simp [lst]
  | succ t ih => simp only [lst]; split <;> omega
/-- It ends behind s exactly if it is served behind s. -/
theorem lst_gt (o : List Int) (i : Int) (s : Nat) : ∀ t : Nat, s ≤ t → (lst o i t > (s : Int) ↔ cnt o i s < cnt o i t)
  | 0, h => by
    obtain rfl : s = 0 := by omega
    simp [lst]
  | t + 1, h => by
    by_cases e : s = t + 1
    · subst e
      have := lst_in o i (t + 1)
      constructor
      · intro h; omega
      · intro h; omega
    · have ih := lst_gt o i s t (by omega)
      have m := cnt_mono o i s t (by omega)
      simp only [lst, cnt]
      by_cases c : rd o (t : Int) = i
      · rw [if_pos c, if_pos c]; omega
      · rw [if_neg c, if_neg c]; omega
/-- Where the last unit ends. -/
theorem lst_of {o : List Int} {i : Int} {e t : Nat} (h0 : cnt o i e < cnt o i (e + 1)) (h1 : cnt o i t = cnt o i (e + 1)) (ht : e + 1 ≤ t) : lst o i t = (e : Int) + 1 := by
  have a := (lst_gt o i e t (by omega)).2 (by omega)
  have b := lst_gt o i (e + 1) t ht
  have c : ¬ (lst o i t > ((e + 1 : Nat) : Int)) := fun h => by have := b.1 h; omega
  omega
/-- An order. -/
def OOK (l : List S42) (o : List Int) : Prop :=
  COK l ∧ (o.length : Int) ≤ 200 ∧ (∀ t : Nat, t < o.length → (-1 ≤ rd o (t : Int) ∧ rd o (t : Int) < (l.length : Int)) ∧ (0 ≤ rd o (t : Int) → cc l (rd o (t : Int)).toNat ≤ (t : Int))) ∧
    ∀ i : Nat, i < l.length → cnt o (i : Int) o.length = pp l i
/-- Each is there as long as needed, at least. -/
theorem lst_come {l : List S42} {o : List Int} (h : OOK l o) (i : Nat) : ∀ t : Nat, t ≤ o.length → (cnt o (i : Int) t = 0 ∧ lst o (i : Int) t = 0) ∨ (cc l i + cnt o (i : Int) t ≤ lst o (i : Int) t)
  | 0, _ => .inl ⟨rfl, rfl⟩
  | t + 1, ht => by
    have ih := lst_come h i t (by omega)
    have b := lst_in o (i : Int) t
    simp only [cnt, lst]
    by_cases c : rd o (t : Int) = (i : Int)
    · have a := (h.2.2.1 t (by omega)).2 (by omega)
      rw [c, Int.toNat_natCast] at a
      rw [if_pos c, if_pos c]
      omega
    · rw [if_neg c, if_neg c]
      omega
theorem lst_need {l : List S42} {o : List Int} (h : OOK l o) {i : Nat} (hi : i < l.length) : cc l i + pp l i ≤ lst o (i : Int) o.length ∧ lst o (i : Int) o.length ≤ (o.length : Int) := by
  have a := lst_come h i o.length (Nat.le_refl _)
  have b := h.2.2.2 i hi
  have c := pp_in h.1 hi
  have d := lst_in o (i : Int) o.length
  omega
theorem ORDL_len (l : List S42) (r : Int) : (ORDL l r).length = (LLV l).toNat := tab_len _ _
theorem rd_ORDL (l : List S42) (r : Int) (t : Nat) (h : (t : Int) < LLV l) : rd (ORDL l r) (t : Int) = ow l r t := rd_tab _ _ _ (by omega)
theorem ow_in (l : List S42) (r : Int) (t : Nat) : -1 ≤ ow l r t ∧ ow l r t < (l.length : Int) := pk_in l (lfs l r t) (t : Int) r l.length
theorem ow_there {l : List S42} (h : COK l) {r : Int} {t w : Nat} (hw : ow l r t = (w : Int)) : w < l.length ∧ cc l w ≤ (t : Int) ∧ 0 < lfs l r t w := by
  have a := ow_in l r t
  have b := pk_there l (lfs l r t) (t : Int) r l.length w hw
  have c := lfs_in h r t w (by omega)
  have := b.2
  omega
theorem ow_none {l : List S42} {r : Int} {t : Nat} (hw : ow l r t < 0) (j : Nat) (hj : j < l.length) : cc l j > (t : Int) ∨ lfs l r t j = 0 := pk_none l (lfs l r t) (t : Int) r l.length hw j hj
/-- One unit of a rule. -/
theorem lfs_step {l : List S42} (r : Int) (t i : Nat) : lfs l r (t + 1) i = lfs l r t i - if ow l r t = (i : Int) then 1 else 0 := by
  by_cases c : ow l r t < 0
  · rw [lfs_neg c, if_neg (by omega)]; omega
  · obtain ⟨w, hw⟩ := Int.eq_ofNat_of_zero_le (show 0 ≤ ow l r t by omega)
    rw [lfs_pos hw, hw]
    unfold up
    by_cases e : i = w
    · rw [if_pos e, if_pos (by rw [e]), e]
    · rw [if_neg e, if_neg (by omega)]; omega
theorem lfs_anti {l : List S42} (r : Int) (i s : Nat) : ∀ t : Nat, s ≤ t → lfs l r t i ≤ lfs l r s i
  | 0, h => by obtain rfl : s = 0 := by omega
               exact Int.le_refl _
  | t + 1, h => by
    by_cases e : s = t + 1
    · subst e; exact Int.le_refl _
    · have := lfs_anti (l := l) r i s t (by omega)
      rw [lfs_step]; split <;> omega
/-- Nobody is served before coming. -/
theorem lfs_early {l : List S42} (h : COK l) (r : Int) (i : Nat) (hi : i < l.length) : ∀ t : Nat, (t : Int) ≤ cc l i → lfs l r t i = pp l i
  | 0, _ => rfl
  | t + 1, ht => by
    have a := lfs_early h r i hi t (by omega)
    rw [lfs_step, a]
    by_cases c : ow l r t = (i : Int)
    · have := ow_there h c
      omega
    · rw [if_neg c]; omega
theorem cnt_ORDL (l : List S42) (r : Int) (i : Nat) : ∀ t : Nat, (t : Int) ≤ LLV l → cnt (ORDL l r) (i : Int) t = pp l i - lfs l r t i
  | 0, _ => by simp only [cnt, lfs]; omega
  | t + 1, ht => by
    have a := cnt_ORDL l r i t (by omega)
    simp only [cnt]
    rw [rd_ORDL l r t (by omega), a, lfs_step]
    omega
theorem first_late (l : List S42) (t : Int) : ∀ n : Nat, (∀ i, i < n → cc l i ≤ t) ∨ ∃ k, k < n ∧ cc l k > t ∧ ∀ i, i < k → cc l i ≤ t
  | 0 => .inl (fun i hi => by omega)
  | n + 1 => by
    rcases first_late l t n with h | ⟨k, h1, h2, h3⟩
    · by_cases c : cc l n ≤ t
      · refine .inl (fun i hi => ?_)
        by_cases e : i = n
        · exact e ▸ c
        · exact h i (by omega)
      · exact .inr ⟨n, by omega, by omega, h⟩
    · exact .inr ⟨k, by omega, h2, h3⟩
theorem left_sum {l : List S42} (h : COK l) (r : Int) : ∀ t : Nat, (t : Int) ≤ LLV l → sg (lfs l r t) l.length ≤ LLV l - t
  | 0, _ => by
    have n0 : sg (lfs l r 0) l.length = sg (pp l) l.length := rfl
    by_cases e : l.length = 0
    · rw [n0, e]
      have := LLV_in h
      simp only [sg]; omega
    · have a := LLa_ge l l.length 0 (by omega)
      have b := cc_in h (i := 0) (by omega)
      have c : llAt l 0 = cc l 0 + (sg (pp l) l.length - sg (pp l) 0) := rfl
      have d : sg (pp l) 0 = 0 := rfl
      have e : LLV l = LLa l l.length := rfl
      omega
  | t + 1, ht => by
    have ih := left_sum h r t (by omega)
    by_cases c : ow l r t < 0
    · rw [lfs_neg c]
      rcases first_late l (t : Int) l.length with f | ⟨k, h1, h2, h3⟩
      · have z : sg (lfs l r t) l.length = 0 := (sg_congr _ (fun i hi => by have := ow_none c i hi; have := f i hi; show lfs l r t i = 0; omega)).trans (sg_zero _)
        omega
      · have s1 := sg_split (lfs l r t) k (l.length - k)
        rw [show k + (l.length - k) = l.length by omega] at s1
        have z : sg (lfs l r t) k = 0 := (sg_congr _ (fun i hi => by have := ow_none c i (by omega); have := h3 i hi; show lfs l r t i = 0; omega)).trans (sg_zero _)
        have s2 := pn_split l k (by omega)
        have s3 := sg_le (f := fun i => lfs l r t (k + i)) (g := fun i => pp l (k + i)) (l.length - k) (fun i hi => (lfs_in h r t (k + i) (by omega)).2)
        have a := LLa_ge l l.length k h1
        have b : llAt l k = cc l k + (sg (pp l) l.length - sg (pp l) k) := rfl
        have e : LLV l = LLa l l.length := rfl
        omega
    · obtain ⟨w, hw⟩ := Int.eq_ofNat_of_zero_le (show 0 ≤ ow l r t by omega)
      have wi := ow_there h hw
      have u := sg_unit w 1 l.length
      rw [if_pos wi.1] at u
      have s := sg_sub (lfs l r t) (fun i => if i = w then 1 else 0) l.length
      have e : sg (lfs l r (t + 1)) l.length = sg (fun i => lfs l r t i - if i = w then 1 else 0) l.length := sg_congr _ (fun i hi => by
        rw [lfs_step, hw]
        by_cases e : i = w
        · rw [if_pos e, if_pos (by rw [e])]
        · rw [if_neg e, if_neg (by omega)])
      rw [e, s, u]; omega
theorem lfs_end {l : List S42} (h : COK l) (r : Int) (i : Nat) (hi : i < l.length) : lfs l r (LLV l).toNat i = 0 := by
  have lv := LLV_in h
  have a := left_sum h r (LLV l).toNat (by omega)
  have b := lfs_in h r (LLV l).toNat i hi
  have c := sg_mem l.length i hi (fun j hj => (lfs_in h r (LLV l).toNat j hj).1)
  omega
/-- The orders by the rules are orders. -/
theorem ORDL_ok {l : List S42} (h : COK l) (r : Int) : OOK l (ORDL l r) := by
  have lv := LLV_in h
  have len := ORDL_len l r
  refine ⟨h, by omega, fun t ht => ?_, fun i hi => ?_⟩
  · rw [rd_ORDL l r t (by omega)]
    refine ⟨ow_in l r t, fun c => ?_⟩
    obtain ⟨w, hw⟩ := Int.eq_ofNat_of_zero_le c
    rw [hw, Int.toNat_natCast]
    exact (ow_there h hw).2.1
  · rw [len, cnt_ORDL l r i _ (by omega), lfs_end h r i hi]; omega
/-- The end, told by what is left. -/
theorem lst_ORDL {l : List S42} (h : COK l) (r : Int) (i : Nat) (hi : i < l.length) (e : Nat) (h0 : 0 < lfs l r e i) (h1 : lfs l r (e + 1) i = 0) : lst (ORDL l r) (i : Int) (ORDL l r).length = (e : Int) + 1 := by
  have lv := LLV_in h
  have len := ORDL_len l r
  have le : (e : Int) < LLV l := by
    apply Classical.byContradiction
    intro c
    have a := lfs_anti (l := l) r i (LLV l).toNat e (by omega)
    have b := lfs_end h r i hi
    omega
  have c0 := cnt_ORDL l r i e (by omega)
  have c1 := cnt_ORDL l r i (e + 1) (by omega)
  have c2 := (ORDL_ok h r).2.2.2 i hi
  exact lst_of (by omega) (by omega) (by omega)
/-- The end of what goes on at j with the end E. -/
def pe (l : List S42) : Nat → Nat → Int → Int
  | 0, _, E => E
  | d + 1, j, E => if cc l j < E then pe l d (j + 1) (E + pp l j) else E
/-- The end of the period of customer i. -/
def PEND (l : List S42) (i : Nat) : Int := pe l (l.length - 1 - i) (i + 1) (cc l i + pp l i)
theorem pe_in {l : List S42} (h : COK l) : ∀ (d j : Nat) (E : Int), j + d = l.length → E ≤ pe l d j E ∧ pe l d j E ≤ E + 9 * (d : Int)
  | 0, j, E, _ => by simp [pe]
  | d + 1, j, E, hj => by
    have p := pp_in h (i := j) (by omega)
    simp only [pe]
    split
    · have := pe_in h d (j + 1) (E + pp l j) (by omega)
      omega
    · omega
theorem PEND_in {l : List S42} (h : COK l) {i : Nat} (hi : i < l.length) : cc l i + pp l i ≤ PEND l i ∧ PEND l i ≤ 200 := by
  have a := pe_in h (l.length - 1 - i) (i + 1) (cc l i + pp l i) (by omega)
  have := cc_in h hi; have := pp_in h hi; have := clen h
  unfold PEND; omega
theorem pe_mono {l : List S42} (h : COK l) : ∀ (d j : Nat) (E E' : Int), j + d = l.length → E ≤ E' → pe l d j E ≤ pe l d j E'
  | 0, j, E, E', _, he => he
  | d + 1, j, E, E', hj, he => by
    have p := pp_in h (i := j) (by omega)
    simp only [pe]
    by_cases c : cc l j < E
    · rw [if_pos c, if_pos (by omega)]
      exact pe_mono h d (j + 1) _ _ (by omega) (by omega)
    · rw [if_neg c]
      split
      · have := (pe_in h d (j + 1) (E' + pp l j) (by omega)).1
        omega
      · exact he
theorem pe_within {l : List S42} (h : COK l) (a : Nat) (ha : a < l.length) : ∀ (d m : Nat) (E : Int), m + d = l.length → m ≤ a → cc l a < pe l d m E → PEND l a ≤ pe l d m E
  | 0, m, E, hm, hma, _ => by omega
  | d + 1, m, E, hm, hma, hlt => by
    have c1 := cc_mono h a m hma ha
    simp only [pe] at hlt ⊢
    by_cases c : cc l m < E
    · rw [if_pos c] at hlt ⊢
      by_cases e : m = a
      · subst e
        have := pe_mono h (l.length - 1 - m) (m + 1) (cc l m + pp l m) (E + pp l m) (by omega) (by omega)
        rw [show d = l.length - 1 - m by omega]
        exact this
      · exact pe_within h a ha d (m + 1) _ (by omega) (by omega) hlt
    · rw [if_neg c] at hlt; omega
/-- Periods are within each other. -/
theorem PEND_within {l : List S42} (h : COK l) {j a : Nat} (hj : j < a) (ha : a < l.length) (hlt : cc l a < PEND l j) : PEND l a ≤ PEND l j :=
  pe_within h a ha (l.length - 1 - j) (j + 1) _ (by omega) (by omega) hlt
/-- The customer k, and those behind who come before u: f of all, added. -/
def behind (l : List S42) (k : Nat) (u : Int) (f : Nat → Int) : Int := sg (fun i => if i = k ∨ (k < i ∧ cc l i < u) then f i else 0) l.length
theorem sg_range (f : Nat → Int) (a b : Nat) (hab : a ≤ b) : ∀ n : Nat, b ≤ n → sg (fun i => if a ≤ i ∧ i < b then f i else 0) n = sg f b - sg f a
  | 0, h => by
    obtain rfl : b = 0 := by omega
    obtain rfl : a = 0 := by omega
    simp [sg]
  | n + 1, h => by
    simp only [sg]
    by_cases e : b = n + 1
    · subst e
      have z : ∀ m : Nat, m ≤ n → sg (fun i => if a ≤ i ∧ i < n + 1 then f i else 0) m = if a ≤ m then sg f m - sg f a else 0 := by
        intro m
        induction m with
        | zero =>
          intro _
          by_cases c : a = 0
          · subst c; simp [sg]
          · rw [if_neg (by omega)]; rfl
        | succ m ih =>
          intro hm
          simp only [sg]
          rw [ih (by omega)]
          by_cases c1 : a ≤ m
          · rw [if_pos c1, if_pos ⟨c1, by omega⟩, if_pos (by omega)]; omega
          · rw [if_neg c1, if_neg (by omega)]
            by_cases c2 : a ≤ m + 1
            · obtain rfl : a = m + 1 := by omega
              rw [if_pos c2]; simp only [sg]; omega
            · rw [if_neg c2]; rfl
      rw [z n (Nat.le_refl _)]
      by_cases c1 : a ≤ n
      · rw [if_pos c1, if_pos ⟨c1, by omega⟩]; simp only [sg]; omega
      · obtain rfl : a = n + 1 := by omega
        rw [if_neg c1, if_neg (by omega)]; simp only [sg]; omega
    · rw [sg_range f a b hab n (by omega), if_neg (by omega)]; omega
theorem behind_pp {l : List S42} {k j : Nat} {u : Int} (hk : k < j) (hj : j ≤ l.length) (h1 : ∀ i, k < i → i < j → cc l i < u) (h2 : ∀ i, j ≤ i → i < l.length → u ≤ cc l i) : behind l k u (pp l) = sg (pp l) j - sg (pp l) k := by
  rw [← sg_range (pp l) k j (by omega) l.length hj]
  refine sg_congr _ (fun i hi => ?_)
  by_cases c : k ≤ i ∧ i < j
  · rw [if_pos c, if_pos]
    by_cases e : i = k
    · exact .inl e
    · exact .inr ⟨by omega, h1 i (by omega) c.2⟩
  · rw [if_neg c, if_neg]
    rintro (e | ⟨e1, e2⟩)
    · omega
    · have := h2 i (by omega) hi
      omega
theorem pe_behind {l : List S42} (h : COK l) (k : Nat) : ∀ (d j : Nat) (u : Int), j + d = l.length → k < j → (∀ i, k < i → i < j → cc l i < u) →
    (u < pe l d j (cc l k + (sg (pp l) j - sg (pp l) k)) → u < cc l k + behind l k u (pp l)) ∧ (u = pe l d j (cc l k + (sg (pp l) j - sg (pp l) k)) → u = cc l k + behind l k u (pp l))
  | 0, j, u, hj, hk, hu => by
    rw [behind_pp hk (by omega) hu (fun i h1 h2 => by omega)]
    exact ⟨fun a => a, fun a => a⟩
  | d + 1, j, u, hj, hk, hu => by
    have late : u ≤ cc l j → behind l k u (pp l) = sg (pp l) j - sg (pp l) k := fun c => behind_pp hk (by omega) hu (fun i h1 h2 => by have := cc_mono h i j h1 h2; omega)
    simp only [pe]
    by_cases c : cc l j < cc l k + (sg (pp l) j - sg (pp l) k)
    · rw [if_pos c]
      by_cases c2 : cc l j < u
      · have ih := pe_behind h k d (j + 1) u (by omega) (by omega) (fun i h1 h2 => by
          by_cases e : i = j
          · exact e ▸ c2
          · exact hu i h1 (by omega))
        have e : cc l k + (sg (pp l) (j + 1) - sg (pp l) k) = cc l k + (sg (pp l) j - sg (pp l) k) + pp l j := by
          show cc l k + (sg (pp l) j + pp l j - sg (pp l) k) = _
          omega
        rw [e] at ih
        exact ih
      · have e := late (by omega)
        have p := pe_in h d (j + 1) (cc l k + (sg (pp l) j - sg (pp l) k) + pp l j) (by omega)
        have q := pp_in h (i := j) (by omega)
        exact ⟨fun _ => by omega, fun a => by omega⟩
    · rw [if_neg c]
      constructor
      · intro a
        have e := late (by omega)
        omega
      · intro a
        have e := late (by omega)
        omega
theorem PEND_behind {l : List S42} (h : COK l) {k : Nat} (hk : k < l.length) (u : Int) : (u < PEND l k → u < cc l k + behind l k u (pp l)) ∧ (u = PEND l k → u = cc l k + behind l k u (pp l)) := by
  have := pe_behind h k (l.length - 1 - k) (k + 1) u (by omega) (by omega) (fun i h1 h2 => by omega)
  have e : cc l k + (sg (pp l) (k + 1) - sg (pp l) k) = cc l k + pp l k := by
    show cc l k + (sg (pp l) k + pp l k - sg (pp l) k) = _
    omega
  rw [e] at this
  exact this
theorem pk_greatest1 (l : List S42) (lf : Nat → Int) (t : Int) : ∀ m w : Nat, pk l lf t 1 m = (w : Int) → ∀ j, w < j → j < m → cc l j > t ∨ lf j = 0
  | 0, w, h, j, _, hj => by omega
  | m + 1, w, h, j, hwj, hj => by
    simp only [pk] at h
    by_cases c : cc l m > t ∨ lf m = 0
    · rw [if_pos c] at h
      by_cases e : j = m
      · exact e ▸ c
      · exact pk_greatest1 l lf t m w h j hwj (by omega)
    · rw [if_neg c, if_pos (by simp)] at h
      omega
theorem behind_step {l : List S42} (h : COK l) {k : Nat} (hk : k < l.length) {u : Nat} (hu : cc l k ≤ (u : Int)) {w : Nat} (hw : ow l 1 u = (w : Int)) (hkw : k ≤ w) :
    behind l k ((u + 1 : Nat) : Int) (lfs l 1 (u + 1)) = behind l k (u : Int) (lfs l 1 u) + behind l k ((u + 1 : Nat) : Int) (pp l) - behind l k (u : Int) (pp l) - 1 := by
  have wi := ow_there h hw
  have un := sg_unit w 1 l.length
  rw [if_pos wi.1] at un
  have s : ∀ a b c d : Nat → Int, sg (fun i => a i + b i - c i - d i) l.length = sg a l.length + sg b l.length - sg c l.length - sg d l.length := by
    intro a b c d
    rw [sg_sub (fun i => a i + b i - c i) d, sg_sub (fun i => a i + b i) c, sg_add a b]
  have e := s (fun i => if i = k ∨ (k < i ∧ cc l i < (u : Int)) then lfs l 1 u i else 0) (fun i => if i = k ∨ (k < i ∧ cc l i < ((u + 1 : Nat) : Int)) then pp l i else 0) (fun i => if i = k ∨ (k < i ∧ cc l i < (u : Int)) then pp l i else 0) (fun i => if i = w then 1 else 0)
  rw [un] at e
  unfold behind
  refine Eq.trans (sg_congr _ (fun i hi => ?_)) e
  rw [lfs_step, hw]
  by_cases c1 : i = k ∨ (k < i ∧ cc l i < (u : Int))
  · have c2 : i = k ∨ (k < i ∧ cc l i < ((u + 1 : Nat) : Int)) := by omega
    rw [if_pos c1, if_pos c2, if_pos c2, if_pos c1]
    by_cases e : i = w
    · rw [if_pos (by rw [e]), if_pos e]; omega
    · rw [if_neg (by omega), if_neg e]; omega
  · by_cases c2 : i = k ∨ (k < i ∧ cc l i < ((u + 1 : Nat) : Int))
    · have early := lfs_early h 1 i hi u (by omega)
      rw [if_neg c1, if_pos c2, if_pos c2, if_neg c1, early]
      by_cases e : i = w
      · rw [if_pos (by rw [e]), if_pos e]; omega
      · rw [if_neg (by omega), if_neg e]; omega
    · have ne : i ≠ w := by
        intro e
        subst e
        have := wi.2.1
        omega
      rw [if_neg c1, if_neg c2, if_neg c2, if_neg c1, if_neg ne]; omega
theorem behind_ge {l : List S42} (h : COK l) {k : Nat} (hk : k < l.length) (u : Int) (t : Nat) : lfs l 1 t k ≤ behind l k u (lfs l 1 t) := by
  have := sg_mem (f := fun i => if i = k ∨ (k < i ∧ cc l i < u) then lfs l 1 t i else 0) l.length k hk (fun j hj => by
    have := lfs_in h 1 t j hj
    show 0 ≤ if j = k ∨ (k < j ∧ cc l j < u) then lfs l 1 t j else 0
    split <;> omega)
  simp only [true_or, if_true] at this
  exact this
theorem lcfs_sum {l : List S42} (h : COK l) {k : Nat} (hk : k < l.length) : ∀ d u : Nat, (u : Int) = cc l k + d → (u : Int) ≤ PEND l k →
    behind l k (u : Int) (lfs l 1 u) = cc l k + behind l k (u : Int) (pp l) - u ∧ ((u : Int) < PEND l k → 0 < lfs l 1 u k) := by
  intro d
  induction d with
  | zero =>
    intro u hu hp
    have e := lfs_early h 1 k hk u (by omega)
    have p := pp_in h hk
    refine ⟨?_, fun _ => by omega⟩
    have one : ∀ f : Nat → Int, behind l k (u : Int) f = f k := by
      intro f
      unfold behind
      have un := sg_unit k (f k) l.length
      rw [if_pos hk] at un
      rw [← un]
      refine sg_congr _ (fun i hi => ?_)
      by_cases c : i = k
      · rw [if_pos (.inl c), if_pos c, c]
      · rw [if_neg c, if_neg]
        rintro (a | ⟨a, b⟩)
        · exact c a
        · have := cc_mono h i k (by omega) hi
          omega
    rw [one, one]; omega
  | succ d ih =>
    intro u hu hp
    obtain ⟨v, rfl⟩ : ∃ v, u = v + 1 := ⟨u - 1, by have := cc_in h hk; omega⟩
    have a := ih v (by omega) (by omega)
    have lv := a.2 (by omega)
    have cv : cc l k ≤ (v : Int) := by omega
    obtain ⟨w, hw, hkw⟩ : ∃ w : Nat, ow l 1 v = (w : Int) ∧ k ≤ w := by
      by_cases c : ow l 1 v < 0
      · have := ow_none c k hk; omega
      · obtain ⟨w, hw⟩ := Int.eq_ofNat_of_zero_le (show 0 ≤ ow l 1 v by omega)
        refine ⟨w, hw, ?_⟩
        apply Classical.byContradiction
        intro hc
        have := pk_greatest1 l (lfs l 1 v) (v : Int) l.length w hw k (by omega) hk
        omega
    have s := behind_step h hk cv hw hkw
    have sum : behind l k ((v + 1 : Nat) : Int) (lfs l 1 (v + 1)) = cc l k + behind l k ((v + 1 : Nat) : Int) (pp l) - ((v + 1 : Nat) : Int) := by
      rw [s, a.1]; omega
    refine ⟨sum, fun hlt => ?_⟩
    by_cases e : w = k
    · subst e
      have pb := (PEND_behind h hk ((v + 1 : Nat) : Int)).1 hlt
      have only : behind l w ((v + 1 : Nat) : Int) (lfs l 1 (v + 1)) = lfs l 1 (v + 1) w := by
        unfold behind
        have un := sg_unit w (lfs l 1 (v + 1) w) l.length
        rw [if_pos hk] at un
        rw [← un]
        refine sg_congr _ (fun i hi => ?_)
        by_cases c : i = w
        · rw [if_pos (.inl c), if_pos c, c]
        · rw [if_neg c]
          by_cases c2 : i = w ∨ (w < i ∧ cc l i < ((v + 1 : Nat) : Int))
          · rw [if_pos c2]
            have g := pk_greatest1 l (lfs l 1 v) (v : Int) l.length w hw i (by omega) hi
            have m := lfs_anti (l := l) 1 i v (v + 1) (by omega)
            have q := lfs_in h 1 (v + 1) i hi
            omega
          · rw [if_neg c2]
      omega
    · rw [lfs_step, hw, if_neg (by omega)]; omega
/-- By the last come, each is there for the period. -/
theorem lst_lcfs {l : List S42} (h : COK l) (k : Nat) (hk : k < l.length) : lst (ORDL l 1) (k : Int) (ORDL l 1).length = PEND l k := by
  have p := PEND_in h hk
  have c := cc_in h hk
  have q := pp_in h hk
  obtain ⟨e, he⟩ := Int.eq_ofNat_of_zero_le (show 0 ≤ PEND l k - 1 by omega)
  have a := lcfs_sum h hk (e - (cc l k).toNat) e (by omega) (by omega)
  have b := lcfs_sum h hk (e + 1 - (cc l k).toNat) (e + 1) (by omega) (by omega)
  have pb := (PEND_behind h hk ((e + 1 : Nat) : Int)).2 (by omega)
  have g := behind_ge h hk ((e + 1 : Nat) : Int) (e + 1)
  have z := lfs_in h 1 (e + 1) k hk
  have := lst_ORDL h 1 k hk e (a.2 (by omega)) (by omega)
  omega
/-- The need of the first n who come at the time t. -/
def arr (l : List S42) (t : Int) (n : Nat) : Int := sg (fun i => if cc l i = t then pp l i else 0) n
/-- The work ahead of the time t, without those who come at it. -/
def wk (l : List S42) : Nat → Int
  | 0 => 0
  | t + 1 => mx (wk l t + arr l (t : Int) l.length - 1) 0
/-- The work at the beginning of the time t. -/
def yk (l : List S42) (t : Nat) : Int := wk l t + arr l (t : Int) l.length
theorem arr_in {l : List S42} (h : COK l) (t : Int) (n : Nat) (hn : n ≤ l.length) : 0 ≤ arr l t n ∧ arr l t n ≤ 9 * (n : Int) := by
  have := sg_in (f := fun i => if cc l i = t then pp l i else 0) (A := 0) (B := 9) n (fun i hi => by
    have := pp_in h (i := i) (by omega)
    show 0 ≤ (if cc l i = t then pp l i else 0) ∧ (if cc l i = t then pp l i else 0) ≤ 9
    split <;> omega)
  unfold arr; omega
theorem wk_in {l : List S42} (h : COK l) : ∀ t : Nat, 0 ≤ wk l t ∧ wk l t ≤ 72 * (t : Int)
  | 0 => by simp [wk]
  | t + 1 => by
    have a := wk_in h t
    have b := arr_in h (t : Int) l.length (Nat.le_refl _)
    have n := clen h
    simp only [wk]
    unfold mx
    split <;> omega
theorem arr_none {l : List S42} (t : Int) (n : Nat) (h : ∀ i, i < n → cc l i ≠ t) : arr l t n = 0 := by
  unfold arr
  rw [sg_congr (g := fun _ => (0 : Int)) n (fun i hi => if_neg (h i hi)), sg_zero]
theorem arr_some {l : List S42} (h : COK l) (t : Int) (i : Nat) (hi : i < l.length) (he : cc l i = t) : 0 < arr l t l.length := by
  have := sg_mem (f := fun i => if cc l i = t then pp l i else 0) l.length i hi (fun j hj => by
    have := pp_in h hj
    show 0 ≤ if cc l j = t then pp l j else 0
    split <;> omega)
  have p := pp_in h hi
  simp only [he, if_true] at this
  unfold arr; omega
theorem behind_arr {l : List S42} (h : COK l) (h0 : 0 < l.length) (t : Nat) (ht : cc l 0 < (t : Int)) : behind l 0 ((t + 1 : Nat) : Int) (pp l) = behind l 0 (t : Int) (pp l) + arr l (t : Int) l.length := by
  unfold behind arr
  rw [← sg_add]
  refine sg_congr _ (fun i hi => ?_)
  by_cases z : i = 0
  · subst z
    rw [if_pos (.inl rfl), if_pos (.inl rfl), if_neg (by omega)]; omega
  · by_cases c : cc l i < (t : Int)
    · rw [if_pos (.inr ⟨by omega, by omega⟩), if_pos (.inr ⟨by omega, c⟩), if_neg (by omega)]; omega
    · by_cases e : cc l i = (t : Int)
      · rw [if_pos (.inr ⟨by omega, by omega⟩), if_neg (by omega), if_pos e]; omega
      · rw [if_neg (by omega), if_neg (by omega), if_neg e]; rfl
theorem behind_first {l : List S42} (h : COK l) (h0 : 0 < l.length) (t : Nat) (ht : cc l 0 = (t : Int)) : behind l 0 ((t + 1 : Nat) : Int) (pp l) = arr l (t : Int) l.length := by
  unfold behind arr
  refine sg_congr _ (fun i hi => ?_)
  have m := cc_mono h i 0 (by omega) hi
  by_cases c : cc l i = (t : Int)
  · rw [if_pos c, if_pos]
    by_cases z : i = 0
    · exact .inl z
    · exact .inr ⟨by omega, by omega⟩
  · rw [if_neg c, if_neg]
    rintro (z | ⟨_, z⟩)
    · subst z; exact c ht
    · omega
/-- Nobody has come. -/
theorem wk_early {l : List S42} (h : COK l) (h0 : 0 < l.length) : ∀ t : Nat, (t : Int) ≤ cc l 0 → wk l t = 0
  | 0, _ => rfl
  | t + 1, ht => by
    simp only [wk]
    rw [wk_early h h0 t (by omega), arr_none (t : Int) l.length (fun i hi => by have := cc_mono h i 0 (by omega) hi; omega)]
    decide
theorem yk_early {l : List S42} (h : COK l) (h0 : 0 < l.length) (t : Nat) (ht : (t : Int) < cc l 0) : yk l t = 0 := by
  unfold yk
  rw [wk_early h h0 t (by omega), arr_none (t : Int) l.length (fun i hi => by have := cc_mono h i 0 (by omega) hi; omega)]; rfl
theorem yk_first {l : List S42} (h : COK l) (h0 : 0 < l.length) (t : Nat) (ht : cc l 0 = (t : Int)) : 0 < yk l t := by
  have := arr_some h (t : Int) 0 h0 ht
  unfold yk
  rw [wk_early h h0 t (by omega)]; omega
/-- The work in the first period. -/
theorem wk_busy {l : List S42} (h : COK l) (h0 : 0 < l.length) : ∀ d t : Nat, (t : Int) = cc l 0 + 1 + d → (t : Int) ≤ PEND l 0 → wk l t = cc l 0 + behind l 0 (t : Int) (pp l) - t := by
  intro d
  induction d with
  | zero =>
    intro t ht hp
    have c := cc_in h h0
    obtain ⟨u, rfl⟩ : ∃ u, t = u + 1 := ⟨t - 1, by omega⟩
    have f := behind_first h h0 u (by omega)
    have a := arr_some h (u : Int) 0 h0 (by omega)
    simp only [wk]
    rw [wk_early h h0 u (by omega), f]
    unfold mx
    split <;> omega
  | succ d ih =>
    intro t ht hp
    have c := cc_in h h0
    obtain ⟨u, rfl⟩ : ∃ u, t = u + 1 := ⟨t - 1, by omega⟩
    have a := ih u (by omega) (by omega)
    have b := (PEND_behind h h0 (u : Int)).1 (by omega)
    have r := arr_in h (u : Int) l.length (Nat.le_refl _)
    simp only [wk]
    rw [behind_arr h h0 u (by omega), a]
    unfold mx
    split <;> omega
theorem yk_busy {l : List S42} (h : COK l) (h0 : 0 < l.length) (t : Nat) (h1 : cc l 0 ≤ (t : Int)) (h2 : (t : Int) < PEND l 0) : 0 < yk l t := by
  by_cases e : cc l 0 = (t : Int)
  · exact yk_first h h0 t e
  · have c := cc_in h h0
    have a := wk_busy h h0 (t - 1 - (cc l 0).toNat) t (by omega) (by omega)
    have b := (PEND_behind h h0 (t : Int)).1 h2
    have r := arr_in h (t : Int) l.length (Nat.le_refl _)
    unfold yk; omega
theorem yk_end {l : List S42} (h : COK l) (h0 : 0 < l.length) (t : Nat) (ht : (t : Int) = PEND l 0) (hn : ∀ i, i < l.length → cc l i ≠ (t : Int)) : yk l t = 0 := by
  have c := cc_in h h0
  have p := pp_in h h0
  have q := PEND_in h h0
  have a := wk_busy h h0 (t - 1 - (cc l 0).toNat) t (by omega) (by omega)
  have b := (PEND_behind h h0 (t : Int)).2 ht
  unfold yk
  rw [a, arr_none (t : Int) l.length hn]; omega
theorem yk_in {l : List S42} (h : COK l) (t : Nat) (ht : t ≤ 300) : 0 ≤ yk l t ∧ yk l t ≤ 30000 := by
  have a := wk_in h t
  have b := arr_in h (t : Int) l.length (Nat.le_refl _)
  have n := clen h
  unfold yk; omega
theorem yks_in {l : List S42} (h : COK l) (t : Nat) (ht : t ≤ 300) : 0 ≤ sg (yk l) t ∧ sg (yk l) t ≤ 30000 * (t : Int) := by
  have := sg_in (f := yk l) (A := 0) (B := 30000) t (fun j hj => yk_in h j (by omega))
  omega
/-- What WorkArea answers. -/
noncomputable def WAV (l : List S42) : Int := @ite _ (COK l) (Classical.propDecidable _) (sg (yk l) 201) (-1)
theorem WAV_pos {l : List S42} (h : COK l) : WAV l = sg (yk l) 201 := by unfold WAV; exact if_pos h
theorem WAV_neg {l : List S42} (h : ¬COK l) : WAV l = -1 := by unfold WAV; exact if_neg h
theorem iCustomersOk_l0 (l : List S42) (hl : l.length ≤ 9223372036854775806) : ∀ d i : Nat, i + d = l.length →
    Ev (fun k => impl_CustomersOk.l0 k l l (l.length : Int) (i : Int)) (dec ((∀ j : Nat, i ≤ j → j < l.length → CIn l j) ∧ (l.length : Int) ≤ 8)) := by
  intro d
  induction d with
  | zero =>
    intro i hi
    refine ev_succ ?_
    simp only [impl_CustomersOk.l0]
    refine ev_neg (by omega) (ev_some ?_)
    obtain rfl : i = l.length := by omega
    rw [dec_of]
    exact dec_congr ⟨fun h => ⟨from_end, h⟩, fun h => h.2⟩
  | succ d ih =>
    intro i hi
    refine ev_succ ?_
    simp only [impl_CustomersOk.l0]
    have hs := from_step (i := i) (n := l.length) (Q := fun j => CIn l j) (by omega)
    refine ev_pos (by omega) (ev_pos (by omega) (ev_pos (by omega) ?_))
    by_cases h1 : (rd_T42 l (i : Int)).f0 < 0
    · exact ev_pos h1 (ev_some (dec_neg (fun x => by have := (hs.1 x.1).1.1.1; omega)).symm)
    refine ev_neg h1 ?_
    by_cases h2 : (rd_T42 l (i : Int)).f0 > 60
    · exact ev_pos h2 (ev_some (dec_neg (fun x => by have := (hs.1 x.1).1.1.2; omega)).symm)
    refine ev_neg h2 ?_
    rw [wrap_succ (by omega), wrap_pred (by omega)]
    have fin : (0 < i → (rd_T42 l ((i : Int) - 1)).f0 ≤ (rd_T42 l (i : Int)).f0) → Ev (fun k => if (rd_T42 l (i : Int)).f1 < 1 then some false else if (rd_T42 l (i : Int)).f1 > 9 then some false else impl_CustomersOk.l0 k l l (l.length : Int) ((i + 1 : Nat) : Int)) (dec ((∀ j : Nat, i ≤ j → j < l.length → CIn l j) ∧ (l.length : Int) ≤ 8)) := by
      intro hp
      by_cases h3 : (rd_T42 l (i : Int)).f1 < 1
      · exact ev_pos h3 (ev_some (dec_neg (fun x => by have := (hs.1 x.1).1.2.1.1; omega)).symm)
      refine ev_neg h3 ?_
      by_cases h4 : (rd_T42 l (i : Int)).f1 > 9
      · exact ev_pos h4 (ev_some (dec_neg (fun x => by have := (hs.1 x.1).1.2.1.2; omega)).symm)
      refine ev_neg h4 (ev_to (ih (i + 1) (by omega)) (dec_congr ?_))
      rw [hs]
      exact ⟨fun x => ⟨⟨⟨⟨by omega, by omega⟩, ⟨by omega, by omega⟩, hp⟩, x.1⟩, x.2⟩, fun x => ⟨x.1.2, x.2⟩⟩
    by_cases h5 : (i : Int) > 0
    · refine ev_pos h5 (ev_pos (by omega) (ev_pos (by omega) ?_))
      by_cases h6 : (rd_T42 l (i : Int)).f0 < (rd_T42 l ((i : Int) - 1)).f0
      · exact ev_pos h6 (ev_some (dec_neg (fun x => by have := (hs.1 x.1).1.2.2 (by omega); omega)).symm)
      · exact ev_neg h6 (fin (fun _ => by omega))
    · exact ev_neg h5 (fin (fun h => by omega))
theorem iCustomersOk_ev (l : List S42) (hl : l.length ≤ 9223372036854775806) : Ev (fun k => impl_CustomersOk.f k l) (dec (COK l)) := iCustomersOk_l0 l hl l.length 0 (by omega)
theorem mx_turn (x : Int) : mx 0 x = mx x 0 := by unfold mx; split <;> split <;> omega
theorem iworks_l1 {l : List S42} (h : COK l) (o : List Int) (t : Nat) (ht : t ≤ 200) {r : List Int} (nx : Ev (fun k => impl_works.l0 k l (o.set t (yk l t)) (wk l (t + 1)) ((t + 1 : Nat) : Int)) r) :
    ∀ d i : Nat, i + d = l.length → Ev (fun k => impl_works.l1 k l o (wk l t + arr l (t : Int) i) (t : Int) (i : Int)) r := by
  have n := clen h
  have w := wk_in h t
  intro d
  induction d with
  | zero =>
    intro i hi
    obtain rfl : i = l.length := by omega
    have a := arr_in h (t : Int) l.length (Nat.le_refl _)
    have e : mx 0 (wrap64 (wk l t + arr l (t : Int) l.length - 1)) = wk l (t + 1) := by
      rw [wrap_id (by omega) (by omega), mx_turn]; rfl
    refine ev_succ ?_
    simp only [impl_works.l1]
    rw [e, wrap_succ (i := t) (by omega)]
    exact ev_neg (by omega) nx
  | succ d ih =>
    intro i hi
    have a := arr_in h (t : Int) (i + 1) (by omega)
    have ih := ih (i + 1) (by omega)
    have s : arr l (t : Int) (i + 1) = arr l (t : Int) i + if cc l i = (t : Int) then pp l i else 0 := rfl
    refine ev_succ ?_
    simp only [impl_works.l1]
    rw [wrap_succ (i := i) (by omega)]
    refine ev_pos (by omega) (ev_pos (by omega) ?_)
    by_cases c : cc l i = (t : Int)
    · rw [if_pos c] at s
      have e : wrap64 (wk l t + arr l (t : Int) i + (rd_T42 l (i : Int)).f1) = wk l t + arr l (t : Int) (i + 1) := by
        show wrap64 (wk l t + arr l (t : Int) i + pp l i) = _
        rw [wrap_id (by omega) (by omega)]; omega
      rw [e]
      exact ev_pos c ih
    · rw [if_neg c] at s
      rw [s, Int.add_zero] at ih
      exact ev_neg c ih
theorem iworks_l0 {l : List S42} (h : COK l) : ∀ (d t : Nat) (o : List Int), t + d = 201 → o.length = 201 → (∀ j : Nat, j < t → rd o (j : Int) = yk l j) →
    Ev (fun k => impl_works.l0 k l o (wk l t) (t : Int)) (tab 201 (yk l)) := by
  intro d
  induction d with
  | zero =>
    intro t o ht ho hr
    refine ev_succ ?_
    simp only [impl_works.l0]
    exact ev_neg (by omega) (ev_some (eq_tab ho (fun i hi => hr i (by omega))))
  | succ d ih =>
    intro t o ht ho hr
    have nx := ih (t + 1) (o.set t (yk l t)) (by omega) (by rw [List.length_set]; exact ho) (fun j hj => by
      rw [rd_set _ _ _ _ (by omega)]
      by_cases e : j = t
      · rw [if_pos e, e]
      · rw [if_neg e]; exact hr j (by omega))
    have l1 := iworks_l1 h o t (by omega) nx l.length 0 (by omega)
    have z : wk l t + arr l (t : Int) 0 = wk l t := Int.add_zero _
    rw [z] at l1
    refine ev_succ ?_
    simp only [impl_works.l0]
    exact ev_pos (by omega) (ev_pos (by omega) l1)
theorem iWorkArea_l0 {l : List S42} (h : COK l) : ∀ (d t : Nat), t + d = 201 → Ev (fun k => impl_WorkArea.l0 k (tab 201 (yk l)) (sg (yk l) t) (t : Int)) (sg (yk l) 201) := by
  intro d
  induction d with
  | zero =>
    intro t ht
    obtain rfl : t = 201 := by omega
    refine ev_succ ?_
    simp only [impl_WorkArea.l0]
    exact ev_neg (by omega) (Ev.now _)
  | succ d ih =>
    intro t ht
    have a := yks_in h (t + 1) (by omega)
    have s : sg (yk l) (t + 1) = sg (yk l) t + yk l t := rfl
    refine ev_succ ?_
    simp only [impl_WorkArea.l0]
    rw [rd_tab _ _ _ (by omega), wrap_succ (i := t) (by omega), ← s, wrap_id (x := sg (yk l) (t + 1)) (by omega) (by omega)]
    exact ev_pos (by omega) (ev_pos (by omega) (ih (t + 1) (by omega)))
theorem iWorkArea_ev (l : List S42) (hl : l.length ≤ 9223372036854775806) : Ev (fun k => impl_WorkArea.f k l) (WAV l) := by
  unfold impl_WorkArea.f impl_works.f
  refine Ev.bind (iCustomersOk_ev l hl) ?_
  by_cases h : COK l
  · rw [WAV_pos h]
    exact ev_pos (dec_pos h) (Ev.bind (iworks_l0 h 201 0 _ (by omega) List.length_replicate (fun j hj => by omega)) (iWorkArea_l0 h 201 0 (by omega)))
  · exact ev_neg (by rw [dec_neg h]; simp) (ev_some (WAV_neg h).symm)
theorem sl3Work_l1 {l : List S42} (h : COK l) (m : Int) (o : List Int) (t : Nat) (ho : o.length ≤ 1000) (ht : t ≤ 1000) {r : List Int} (nx : Ev (fun k => spec_l3Work.l0 k l m (o ++ [yk l t]) (wk l (t + 1)) ((t + 1 : Nat) : Int)) r) :
    ∀ d i : Nat, i + d = l.length → Ev (fun k => spec_l3Work.l1 k l m o (wk l t + arr l (t : Int) i) (t : Int) (i : Int)) r := by
  have n := clen h
  have w := wk_in h t
  intro d
  induction d with
  | zero =>
    intro i hi
    obtain rfl : i = l.length := by omega
    have a := arr_in h (t : Int) l.length (Nat.le_refl _)
    have e : mx (wrap64 (wk l t + arr l (t : Int) l.length - 1)) 0 = wk l (t + 1) := by
      rw [wrap_id (by omega) (by omega)]; rfl
    refine ev_succ ?_
    simp only [spec_l3Work.l1]
    rw [e, wrap_succ (i := t) (by omega)]
    exact ev_neg (by omega) (ev_pos (by omega) nx)
  | succ d ih =>
    intro i hi
    have a := arr_in h (t : Int) (i + 1) (by omega)
    have ih := ih (i + 1) (by omega)
    have s : arr l (t : Int) (i + 1) = arr l (t : Int) i + if cc l i = (t : Int) then pp l i else 0 := rfl
    refine ev_succ ?_
    simp only [spec_l3Work.l1]
    rw [wrap_succ (i := i) (by omega)]
    refine ev_pos (by omega) (ev_pos (by omega) ?_)
    by_cases c : cc l i = (t : Int)
    · rw [if_pos c] at s
      have e : wrap64 (wk l t + arr l (t : Int) i + (rd_T42 l (i : Int)).f1) = wk l t + arr l (t : Int) (i + 1) := by
        show wrap64 (wk l t + arr l (t : Int) i + pp l i) = _
        rw [wrap_id (by omega) (by omega)]; omega
      rw [e]
      exact ev_pos c ih
    · rw [if_neg c] at s
      rw [s, Int.add_zero] at ih
      exact ev_neg c ih
theorem sl3Work_l0 {l : List S42} (h : COK l) (m : Nat) (hm : m ≤ 500) : ∀ (d : Nat) (o : List Int), o.length + d = m + 1 → (∀ j : Nat, j < o.length → rd o (j : Int) = yk l j) →
    Ev (fun k => spec_l3Work.l0 k l (m : Int) o (wk l o.length) (o.length : Int)) (tab (m + 1) (yk l)) := by
  intro d
  induction d with
  | zero =>
    intro o ho hr
    refine ev_succ ?_
    simp only [spec_l3Work.l0]
    exact ev_neg (by omega) (ev_some (eq_tab (by omega) (fun i hi => hr i (by omega))))
  | succ d ih =>
    intro o ho hr
    have nx := ih (o ++ [yk l o.length]) (by simp; omega) (fun j hj => by
      rw [rd_app]
      by_cases e : j < o.length
      · rw [if_pos e]; exact hr j e
      · have ej : j = o.length := by simp at hj; omega
        rw [if_neg e, if_pos ej, ej])
    rw [List.length_append] at nx
    have l1 := sl3Work_l1 h (m : Int) o o.length (by omega) (by omega) nx l.length 0 (by omega)
    have z : wk l o.length + arr l (o.length : Int) 0 = wk l o.length := Int.add_zero _
    rw [z] at l1
    refine ev_succ ?_
    simp only [spec_l3Work.l0]
    exact ev_pos (by omega) l1
theorem sl3Work_ev {l : List S42} (h : COK l) (m : Nat) (hm : m ≤ 500) : Ev (fun k => spec_l3Work.f k l (m : Int)) (tab (m + 1) (yk l)) := by
  unfold spec_l3Work.f
  exact sl3Work_l0 h m hm (m + 1) [] (by simp) (fun j hj => by simp at hj)
theorem l1In_eq (a b c : Int) : spec_l1In.f a b c = some (dec (b ≤ a ∧ a ≤ c)) := by
  unfold spec_l1In.f
  by_cases h : a ≥ b
  · rw [if_pos h]
    by_cases h2 : a ≤ c
    · rw [decide_eq_true h2, dec_pos ⟨h, h2⟩]
    · rw [decide_eq_false h2, dec_neg (fun x => h2 x.2)]
  · rw [if_neg h, dec_neg (fun x => h x.1)]
theorem l1In_ev (a b c : Int) : Ev (fun _ => spec_l1In.f a b c) (dec (b ≤ a ∧ a ≤ c)) := Ev.congr (fun _ => l1In_eq a b c) (Ev.now _)
theorem sCustomersOk_l0 (l : List S42) (hl : l.length ≤ 9223372036854775806) : ∀ d i : Nat, i + d = l.length →
    Ev (fun k => spec_CustomersOk.l0 k l (i : Int)) (dec ((∀ j : Nat, i ≤ j → j < l.length → CIn l j) ∧ (l.length : Int) ≤ 8)) := by
  intro d
  induction d with
  | zero =>
    intro i hi
    refine ev_succ ?_
    simp only [spec_CustomersOk.l0]
    refine ev_neg (by omega) (ev_some ?_)
    obtain rfl : i = l.length := by omega
    rw [dec_of]
    exact dec_congr ⟨fun h => ⟨from_end, h⟩, fun h => h.2⟩
  | succ d ih =>
    intro i hi
    refine ev_succ ?_
    simp only [spec_CustomersOk.l0]
    have hs := from_step (i := i) (n := l.length) (Q := fun j => CIn l j) (by omega)
    refine ev_pos (by omega) (ev_pos (by omega) (Ev.bind (l1In_ev _ _ _) ?_))
    by_cases h1 : 0 ≤ (rd_T42 l (i : Int)).f0 ∧ (rd_T42 l (i : Int)).f0 ≤ 60
    · refine ev_pos (dec_pos h1) (Ev.bind (l1In_ev _ _ _) ?_)
      by_cases h2 : 1 ≤ (rd_T42 l (i : Int)).f1 ∧ (rd_T42 l (i : Int)).f1 ≤ 9
      · refine ev_pos (dec_pos h2) ?_
        rw [wrap_succ (by omega), wrap_pred (by omega)]
        by_cases h3 : (i : Int) > 0
        · refine ev_pos h3 (ev_pos (by omega) (ev_pos (by omega) ?_))
          by_cases h4 : (rd_T42 l (i : Int)).f0 < (rd_T42 l ((i : Int) - 1)).f0
          · exact ev_pos h4 (ev_some (dec_neg (fun x => by have := (hs.1 x.1).1.2.2 (by omega); omega)).symm)
          · refine ev_neg h4 (ev_to (ih (i + 1) (by omega)) (dec_congr ?_))
            rw [hs]
            exact ⟨fun x => ⟨⟨⟨h1, h2, fun _ => by omega⟩, x.1⟩, x.2⟩, fun x => ⟨x.1.2, x.2⟩⟩
        · refine ev_neg h3 (ev_to (ih (i + 1) (by omega)) (dec_congr ?_))
          rw [hs]
          exact ⟨fun x => ⟨⟨⟨h1, h2, fun _ => by omega⟩, x.1⟩, x.2⟩, fun x => ⟨x.1.2, x.2⟩⟩
      · exact ev_neg (by rw [dec_neg h2]; simp) (ev_some (dec_neg (fun x => h2 (hs.1 x.1).1.2.1)).symm)
    · exact ev_neg (by rw [dec_neg h1]; simp) (ev_some (dec_neg (fun x => h1 (hs.1 x.1).1.1)).symm)
theorem sCustomersOk_ev (l : List S42) (hl : l.length ≤ 9223372036854775806) : Ev (fun k => spec_CustomersOk.f k l) (dec (COK l)) := sCustomersOk_l0 l hl l.length 0 (by omega)
theorem sWorkArea_l0 {l : List S42} (h : COK l) : ∀ (d t : Nat), t + d = 201 → Ev (fun k => spec_WorkArea.l0 k (sg (yk l) t) (tab 201 (yk l)) (t : Int)) (sg (yk l) 201) := by
  intro d
  induction d with
  | zero =>
    intro t ht
    obtain rfl : t = 201 := by omega
    have tl := tab_len 201 (yk l)
    refine ev_succ ?_
    simp only [spec_WorkArea.l0]
    exact ev_neg (by omega) (Ev.now _)
  | succ d ih =>
    intro t ht
    have tl := tab_len 201 (yk l)
    have a := yks_in h (t + 1) (by omega)
    have s : sg (yk l) (t + 1) = sg (yk l) t + yk l t := rfl
    refine ev_succ ?_
    simp only [spec_WorkArea.l0]
    rw [rd_tab _ _ _ (by omega), wrap_succ (i := t) (by omega), ← s, wrap_id (x := sg (yk l) (t + 1)) (by omega) (by omega)]
    exact ev_pos (by omega) (ev_pos (by omega) (ih (t + 1) (by omega)))
theorem sWorkArea_ev (l : List S42) (hl : l.length ≤ 9223372036854775806) : Ev (fun k => spec_WorkArea.f k l) (WAV l) := by
  unfold spec_WorkArea.f
  refine Ev.bind (sCustomersOk_ev l hl) ?_
  by_cases h : COK l
  · rw [WAV_pos h]
    exact ev_pos (dec_pos h) (Ev.bind (sl3Work_ev h 200 (by omega)) (sWorkArea_l0 h 201 0 (by omega)))
  · exact ev_neg (by rw [dec_neg h]; simp) (ev_some (WAV_neg h).symm)
def cvCustomer (x : S58) : S42 := ⟨x.f0, x.f1⟩
theorem toCustomerS_l0 (l : List S58) (hl : l.length ≤ 1048576) : ∀ (d i : Nat) (o : List S42), i + d = l.length → o.length = l.length → (∀ j : Nat, j < i → rd_T42 o (j : Int) = cvCustomer (rd_T58 l (j : Int))) →
    Ev (fun k => laws_toCustomerS.l0 k l o (i : Int)) (l.map cvCustomer) := by
  intro d
  induction d with
  | zero =>
    intro i o hi ho hr
    refine ev_succ ?_
    simp only [laws_toCustomerS.l0]
    refine ev_neg (by omega) (ev_some ?_)
    refine sCustomer_ext (by rw [List.length_map]; exact ho) (fun j hj => ?_)
    rw [hr j (by omega), sCustomer_nat, List.getD_eq_getElem?_getD, List.getElem?_map, List.getElem?_eq_getElem (by omega)]
    show cvCustomer (l.getD j _) = cvCustomer _
    rw [List.getD_eq_getElem?_getD, List.getElem?_eq_getElem (by omega)]; rfl
  | succ d ih =>
    intro i o hi ho hr
    refine ev_succ ?_
    simp only [laws_toCustomerS.l0, laws_toCustomer.f, Option.bind_some]
    refine ev_pos (by omega) (ev_pos (by omega) (ev_pos (by omega) ?_))
    rw [wrap_succ (by omega)]
    refine ih (i + 1) _ (by omega) (by rw [List.length_set]; exact ho) ?_
    intro j hj
    rw [show ((i : Int).toNat) = i from rfl, sCustomer_set o i j _ (by omega)]
    by_cases e : j = i
    · rw [if_pos e, e]; rfl
    · rw [if_neg e]; exact hr j (by omega)
theorem toCustomerS_ev (l : List S58) (hl : l.length ≤ 1048576) : Ev (fun k => laws_toCustomerS.f k l) (l.map cvCustomer) := by
  unfold laws_toCustomerS.f
  refine ev_pos (by omega) (ev_pos (by omega) ?_)
  refine toCustomerS_l0 l hl l.length 0 _ (by omega) (by simp) (fun j hj => by omega)
theorem szCustomerS_eq (l : List S58) (hl : l.length ≤ 1048576) : laws_szCustomerS.f l 1048576 = some (1048576 - (l.length : Int)) := by
  unfold laws_szCustomerS.f
  rw [wrap_id (by omega) (by omega), if_neg (by omega)]
theorem szCustomerS_big (l : List S58) (h0 : l.length ≤ 9223372036854775807) (hl : ¬ l.length ≤ 1048576) : laws_szCustomerS.f l 1048576 = some (-1) := by
  unfold laws_szCustomerS.f
  rw [wrap_id (by omega) (by omega), if_pos (by omega)]
theorem eqCustomerS_l0 (a b : List S42) (hl : a.length ≤ 9223372036854775806) (hb : a.length = b.length) : ∀ (d i : Nat), i + d = a.length → (∀ j : Nat, j < i → rd_T42 a (j : Int) = rd_T42 b (j : Int)) →
    Ev (fun k => laws_eqCustomerS.l0 k a b (i : Int)) (dec (a = b)) := by
  intro d
  induction d with
  | zero =>
    intro i hi hr
    refine ev_succ ?_
    simp only [laws_eqCustomerS.l0]
    refine ev_neg (by omega) (ev_some ?_)
    exact (dec_pos (sCustomer_ext hb (fun j hj => hr j (by omega)))).symm
  | succ d ih =>
    intro i hi hr
    refine ev_succ ?_
    simp only [laws_eqCustomerS.l0, laws_eqCustomer.f]
    refine ev_pos (by omega) (ev_pos (by omega) (ev_pos (by omega) ?_))
    by_cases h : (rd_T42 a (i : Int)).f0 = (rd_T42 b (i : Int)).f0
    · by_cases h2 : (rd_T42 a (i : Int)).f1 = (rd_T42 b (i : Int)).f1
      · rw [if_pos h, if_pos h2]
        simp only [Option.bind_some]
        refine ev_pos (by simp) ?_
        rw [wrap_succ (by omega)]
        refine ih (i + 1) (by omega) ?_
        intro j hj
        by_cases e : j = i
        · rw [e]
          cases ha : rd_T42 a (i : Int); cases hb' : rd_T42 b (i : Int)
          rw [ha, hb'] at h h2
          simp only at h h2
          rw [h, h2]
        · exact hr j (by omega)
      · rw [if_pos h, if_neg h2]
        simp only [Option.bind_some]
        refine ev_neg (by simp) (ev_some (dec_neg ?_).symm)
        intro e; exact h2 (by rw [e])
    · rw [if_neg h]
      simp only [Option.bind_some]
      refine ev_neg (by simp) (ev_some (dec_neg ?_).symm)
      intro e; exact h (by rw [e])
theorem eqCustomerS_ev (a b : List S42) (hl : a.length ≤ 9223372036854775806) : Ev (fun k => laws_eqCustomerS.f k a b) (dec (a = b)) := by
  unfold laws_eqCustomerS.f
  by_cases h : a.length = b.length
  · refine ev_pos (by omega) ?_
    exact eqCustomerS_l0 a b hl h a.length 0 (by omega) (fun j hj => by omega)
  · refine ev_neg (by omega) (ev_some (dec_neg ?_).symm)
    intro e; exact h (by rw [e])
theorem FnExactWorkArea (l0 : List S58) (h0 : l0.length ≤ 9223372036854775807) : ∃ k, laws_FnExactWorkArea.f k l0 = some true := by
  refine Ev.rounds ?_
  unfold laws_FnExactWorkArea.f
  by_cases h : l0.length ≤ 1048576
  · have e : (l0.map cvCustomer).length ≤ 1048576 := by rw [List.length_map]; omega
    rw [szCustomerS_eq l0 h]
    refine Ev.bind (Ev.now _) (ev_neg (by omega) (Ev.bind (toCustomerS_ev l0 h) (Ev.bind (sWorkArea_ev _ (by omega)) (Ev.bind (toCustomerS_ev l0 h) (Ev.bind (iWorkArea_ev _ (by omega)) ?_)))))
    exact ev_pos rfl (Ev.bind (toCustomerS_ev l0 h) (Ev.bind (eqCustomerS_ev _ _ (by omega)) (ev_pos (dec_pos rfl) (Ev.now _))))
  · rw [szCustomerS_big l0 h0 h]
    exact Ev.bind (Ev.now _) (ev_pos (by omega) (Ev.now _))
end Go.Proofs.Ytlainmahnfnhkaa.Pure
