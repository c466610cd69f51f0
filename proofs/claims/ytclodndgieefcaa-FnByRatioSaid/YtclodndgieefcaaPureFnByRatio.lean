/- The law FnByRatio holds for every input; nothing is assumed. -/
import Derived.Test.YtclodndgieefcaaQFnByRatiox5
namespace Go.Proofs.Ytclodndgieefcaa.Pure
open Go.RowKit Go.Proofs.Ytclodndgieefcaa.PFnByRatio Go.Proofs.YtclodndgieefcaaW.PrintWords Go.Proofs.YtclodndgieefcaaW.PrintLast Go.Proofs.YtclodndgieefcaaW.PrintMore
set_option linter.unusedVariables false
set_option linter.unusedSimpArgs false
theorem ev_succ {α : Type} {g : Nat → Option α} {r : α} (h : Ev (fun k => g (k + 1)) r) : Ev g r := Ev.step (fun _ => rfl) h
theorem ev_pos {α : Type} {c : Prop} [Decidable c] {f g : Nat → Option α} {r : α} (h : c) (k : Ev f r) : Ev (fun n => if c then f n else g n) r := Ev.congr (fun _ => if_pos h) k
theorem ev_neg {α : Type} {c : Prop} [Decidable c] {f g : Nat → Option α} {r : α} (h : ¬c) (k : Ev g r) : Ev (fun n => if c then f n else g n) r := Ev.congr (fun _ => if_neg h) k
theorem ev_some {α : Type} {x r : α} (h : x = r) : Ev (fun _ => some x) r := h ▸ Ev.now x
theorem ev_to {α : Type} {g : Nat → Option α} {a r : α} (h : Ev g a) (e : a = r) : Ev g r := e ▸ h
/-- Whether P. -/
noncomputable def dec (P : Prop) : Bool := @decide P (Classical.propDecidable P)
theorem dec_iff {P : Prop} : dec P = true ↔ P := @decide_eq_true_iff P (Classical.propDecidable P)
theorem dec_pos {P : Prop} (h : P) : dec P = true := dec_iff.2 h
theorem dec_neg {P : Prop} (h : ¬P) : dec P = false := by
  cases e : dec P
  · rfl
  · exact absurd (dec_iff.1 e) h
theorem dec_congr {P Q : Prop} (h : P ↔ Q) : dec P = dec Q := by rw [propext h]
theorem dec_of {P : Prop} [Decidable P] : decide P = dec P := by
  by_cases h : P
  · rw [dec_pos h, decide_eq_true h]
  · rw [dec_neg h, decide_eq_false h]
theorem dec_bool {b : Bool} : b = dec (b = true) := by
  cases b
  · exact (dec_neg (by simp)).symm
  · exact (dec_pos rfl).symm
/-- From i on: at i, and from i + 1 on. -/
theorem from_step {i n : Nat} {Q : Nat → Prop} (h : i < n) : (∀ j, i ≤ j → j < n → Q j) ↔ Q i ∧ ∀ j, i + 1 ≤ j → j < n → Q j := by
  constructor
  · exact fun a => ⟨a i (Nat.le_refl _) h, fun j h1 h2 => a j (by omega) h2⟩
  · intro a j h1 h2
    by_cases e : j = i
    · exact e ▸ a.1
    · exact a.2 j (by omega) h2
theorem from_end {n : Nat} {Q : Nat → Prop} : ∀ j, n ≤ j → j < n → Q j := fun j h1 h2 => by omega
theorem wrap_id {x : Int} (h0 : -9223372036854775808 ≤ x) (h1 : x ≤ 9223372036854775807) : wrap64 x = x := by unfold wrap64; omega
theorem wrap_succ {i : Nat} (h : i ≤ 9223372036854775806) : wrap64 ((i : Int) + 1) = ((i + 1 : Nat) : Int) := by unfold wrap64; omega
theorem wrap_pred {i : Nat} (h : i ≤ 9223372036854775806) : wrap64 ((i : Int) - 1) = (i : Int) - 1 := by unfold wrap64; omega
/-- The bounds of a number of the kind int. -/
def I64 (x : Int) : Prop := -9223372036854775808 ≤ x ∧ x ≤ 9223372036854775807
theorem i64_wf {x : Int} (h : (Lit.int .i64 x).wf = true) : I64 x := by
  have h' : (decide (IntKind.i64.min ≤ x) && decide (x ≤ IntKind.i64.max)) = true := h
  have a : IntKind.i64.min = -9223372036854775808 := by decide
  have b : IntKind.i64.max = 9223372036854775807 := by decide
  rw [a, b] at h'
  simpa [I64] using h'
theorem sTask_nat (l : List S36) (i : Nat) : rd_T36 l (i : Int) = l.getD i z36 := rfl
theorem sTask_get {l : List S36} {i : Nat} (h : i < l.length) : rd_T36 l (i : Int) = l[i] := by
  rw [sTask_nat, List.getD_eq_getElem?_getD, List.getElem?_eq_getElem h]; rfl
theorem sTask_set (l : List S36) (i j : Nat) (v : S36) (h : i < l.length) : rd_T36 (l.set i v) (j : Int) = if j = i then v else rd_T36 l (j : Int) := by
  rw [sTask_nat, sTask_nat, List.getD_eq_getElem?_getD, List.getElem?_set]
  by_cases e : i = j
  · subst e; rw [if_pos rfl, if_pos h, if_pos rfl]; rfl
  · rw [if_neg e, if_neg (fun x => e x.symm), ← List.getD_eq_getElem?_getD]
theorem sTask_app (l : List S36) (v : S36) (j : Nat) : rd_T36 (l ++ [v]) (j : Int) = if j < l.length then rd_T36 l (j : Int) else if j = l.length then v else z36 := by
  rw [sTask_nat, sTask_nat, List.getD_eq_getElem?_getD, List.getD_eq_getElem?_getD, List.getElem?_append]
  by_cases h : j < l.length
  · rw [if_pos h, if_pos h]
  · rw [if_neg h, if_neg h]
    by_cases e : j = l.length
    · subst e; rw [if_pos rfl]; simp
    · rw [if_neg e, List.getElem?_eq_none (by simp; omega)]; rfl
theorem sTask_take (l : List S36) (n j : Nat) (h : j < n) : rd_T36 (l.take n) (j : Int) = rd_T36 l (j : Int) := by
  rw [sTask_nat, sTask_nat, List.getD_eq_getElem?_getD, List.getElem?_take, if_pos h, ← List.getD_eq_getElem?_getD]
theorem sTask_drop (l : List S36) (n j : Nat) : rd_T36 (l.drop n) (j : Int) = rd_T36 l ((n + j : Nat) : Int) := by
  rw [sTask_nat, sTask_nat, List.getD_eq_getElem?_getD, List.getElem?_drop, ← List.getD_eq_getElem?_getD]
theorem sTask_ext {a b : List S36} (hl : a.length = b.length) (h : ∀ j : Nat, j < a.length → rd_T36 a (j : Int) = rd_T36 b (j : Int)) : a = b := by
  refine List.ext_getElem hl fun j h1 h2 => ?_
  have := h j h1
  rw [sTask_get h1, sTask_get h2] at this
  exact this
def TIn (x : S36) : Prop := (1 ≤ x.f0 ∧ x.f0 ≤ 9) ∧ 0 ≤ x.f1 ∧ x.f1 ≤ 9
/-- Tasks. -/
def TOK (l : List S36) : Prop := (∀ j : Nat, 0 ≤ j → j < l.length → TIn (rd_T36 l (j : Int))) ∧ 1 ≤ (l.length : Int) ∧ (l.length : Int) ≤ 6
theorem rd_nat (l : List Int) (i : Nat) : rd l (i : Int) = l.getD i 0 := rfl
theorem rd_set (l : List Int) (i j : Nat) (v : Int) (h : i < l.length) : rd (l.set i v) (j : Int) = if j = i then v else rd l (j : Int) := by
  rw [rd_nat, rd_nat, List.getD_eq_getElem?_getD, List.getElem?_set]
  by_cases e : i = j
  · subst e; rw [if_pos rfl, if_pos h, if_pos rfl]; rfl
  · rw [if_neg e, if_neg (fun x => e x.symm), ← List.getD_eq_getElem?_getD]
theorem rd_app (l : List Int) (v : Int) (j : Nat) : rd (l ++ [v]) (j : Int) = if j < l.length then rd l (j : Int) else if j = l.length then v else 0 := by
  rw [rd_nat, rd_nat, List.getD_eq_getElem?_getD, List.getD_eq_getElem?_getD, List.getElem?_append]
  by_cases h : j < l.length
  · rw [if_pos h, if_pos h]
  · rw [if_neg h, if_neg h]
    by_cases e : j = l.length
    · subst e; rw [if_pos rfl]; simp
    · rw [if_neg e, List.getElem?_eq_none (by simp; omega)]; rfl
theorem rd_take (l : List Int) (n j : Nat) (h : j < n) : rd (l.take n) (j : Int) = rd l (j : Int) := by
  rw [rd_nat, rd_nat, List.getD_eq_getElem?_getD, List.getElem?_take, if_pos h, ← List.getD_eq_getElem?_getD]
theorem rd_ext {a b : List Int} (hl : a.length = b.length) (h : ∀ j : Nat, j < a.length → rd a (j : Int) = rd b (j : Int)) : a = b := by
  refine List.ext_getElem hl fun j h1 h2 => ?_
  have := h j h1
  rw [rd_nat, rd_nat, List.getD_eq_getElem?_getD, List.getD_eq_getElem?_getD, List.getElem?_eq_getElem h1, List.getElem?_eq_getElem h2] at this
  exact this
theorem rd_out (l : List Int) (j : Nat) (h : l.length ≤ j) : rd l (j : Int) = 0 := by
  rw [rd_nat, List.getD_eq_getElem?_getD, List.getElem?_eq_none h]; rfl
theorem rd_mem {l : List Int} {j : Nat} (h : j < l.length) : rd l (j : Int) ∈ l := by
  rw [rd_nat, List.getD_eq_getElem?_getD, List.getElem?_eq_getElem h]; exact List.getElem_mem h
theorem rd_repl (n j : Nat) : rd (List.replicate n (0 : Int)) (j : Int) = 0 := by
  rw [rd_nat, List.getD_eq_getElem?_getD, List.getElem?_replicate]; split <;> rfl
/-- A row has each number from 0 up to m less 1 just once, 1 to 6 of them. -/
def EACH (l : List Int) (m : Int) : Prop := (∀ i : Nat, i < l.length → (0 ≤ rd l (i : Int) ∧ rd l (i : Int) < m) ∧ ∀ j : Nat, j < i → rd l (j : Int) ≠ rd l (i : Int)) ∧ (1 ≤ m ∧ m ≤ 6) ∧ (l.length : Int) = m
/-- When the first i tasks of the order have ended. -/
def WSe (l : List S36) (o : List Int) : Nat → Int
  | 0 => 0
  | i + 1 => WSe l o i + (rd_T36 l (rd o (i : Int))).f0
/-- The weights times the ends of the first i tasks of the order, added. -/
def WSs (l : List S36) (o : List Int) : Nat → Int
  | 0 => 0
  | i + 1 => WSs l o i + (rd_T36 l (rd o (i : Int))).f1 * WSe l o (i + 1)
theorem mul_in {a b A B : Int} (a0 : 0 ≤ a) (a1 : a ≤ A) (b0 : 0 ≤ b) (b1 : b ≤ B) : 0 ≤ a * b ∧ a * b ≤ A * B :=
  ⟨Int.mul_nonneg a0 b0, Int.mul_le_mul a1 b1 b0 (Int.le_trans a0 a1)⟩
/-- An order's places are places of the tasks. -/
def INR (l : List S36) (o : List Int) : Prop := o.length ≤ 6 ∧ ∀ i : Nat, i < o.length → 0 ≤ rd o (i : Int) ∧ rd o (i : Int) < (l.length : Int)
theorem tin_of {l : List S36} (h : TOK l) (x : Int) (h0 : 0 ≤ x) (h1 : x < (l.length : Int)) : TIn (rd_T36 l x) := by
  obtain ⟨m, rfl⟩ := Int.eq_ofNat_of_zero_le h0
  exact h.1 m (Nat.zero_le _) (by omega)
theorem WSe_in {l : List S36} {o : List Int} (h : TOK l) (ho : INR l o) : ∀ i : Nat, i ≤ o.length → 0 ≤ WSe l o i ∧ WSe l o i ≤ 9 * (i : Int)
  | 0, _ => ⟨Int.le_refl _, by simp [WSe]⟩
  | i + 1, hi => by
    have a := WSe_in h ho i (by omega)
    have b := tin_of h _ (ho.2 i (by omega)).1 (ho.2 i (by omega)).2
    have c := b.1
    simp only [WSe]
    omega
theorem WSp_in {l : List S36} {o : List Int} (h : TOK l) (ho : INR l o) (i : Nat) (hi : i < o.length) : 0 ≤ (rd_T36 l (rd o (i : Int))).f1 * WSe l o (i + 1) ∧ (rd_T36 l (rd o (i : Int))).f1 * WSe l o (i + 1) ≤ 9 * 54 := by
  have b := (tin_of h _ (ho.2 i (by omega)).1 (ho.2 i (by omega)).2).2
  have c := WSe_in h ho (i + 1) (by omega)
  have hl := ho.1
  exact mul_in b.1 b.2 c.1 (by omega)
theorem WSs_in {l : List S36} {o : List Int} (h : TOK l) (ho : INR l o) : ∀ i : Nat, i ≤ o.length → 0 ≤ WSs l o i ∧ WSs l o i ≤ 486 * (i : Int)
  | 0, _ => ⟨Int.le_refl _, by simp [WSs]⟩
  | i + 1, hi => by
    have a := WSs_in h ho i (by omega)
    have b := WSp_in h ho i (by omega)
    simp only [WSs]
    omega
theorem inr_each {l : List S36} {o : List Int} (he : EACH o (l.length : Int)) : INR l o := by
  have := he.2
  exact ⟨by omega, fun i hi => (he.1 i hi).1⟩
def nd (l : List S36) (a : Int) : Int := (rd_T36 l a).f0
def wt (l : List S36) (a : Int) : Int := (rd_T36 l a).f1
/-- A sum over a row. -/
def SB (f : Int → Int) : List Int → Int
  | [] => 0
  | a :: t => f a + SB f t
/-- A sum over all pairs of a row. -/
def PC (c : Int → Int → Int) : List Int → Int
  | [] => 0
  | a :: t => SB (c a) t + PC c t
/-- Weights times ends, from an end on. -/
def WL (l : List S36) : Int → List Int → Int
  | _, [] => 0
  | e, a :: t => wt l a * (e + nd l a) + WL l (e + nd l a) t
theorem SB_mul (x : Int) (f : Int → Int) : ∀ o, SB (fun b => x * f b) o = x * SB f o
  | [] => by simp [SB]
  | a :: t => by simp only [SB]; rw [SB_mul x f t, Int.mul_add]
theorem WL_eq (l : List S36) : ∀ o e, WL l e o = e * SB (wt l) o + SB (fun a => wt l a * nd l a) o + PC (fun a b => nd l a * wt l b) o
  | [], e => by simp [WL, SB, PC]
  | a :: t, e => by
    simp only [WL, SB, PC]
    rw [WL_eq l t, SB_mul, Int.mul_add, Int.mul_add, Int.add_mul, Int.mul_comm (wt l a) e]
    omega
theorem WSs_WL (l : List S36) (o : List Int) : ∀ d i : Nat, i + d = o.length → WSs l o o.length = WSs l o i + WL l (WSe l o i) (o.drop i)
  | 0, i, h => by
    rw [List.drop_of_length_le (by omega), show o.length = i by omega]
    simp [WL]
  | d + 1, i, h => by
    have e : o.drop i = rd o (i : Int) :: o.drop (i + 1) := by
      rw [List.drop_eq_getElem_cons (by omega), rd_nat, List.getD_eq_getElem?_getD, List.getElem?_eq_getElem (by omega)]
      rfl
    rw [WSs_WL l o d (i + 1) (by omega), e]
    simp only [WL, WSs, WSe]
    show _ = _ + ((rd_T36 l (rd o (i : Int))).f1 * (WSe l o i + (rd_T36 l (rd o (i : Int))).f0) + _)
    rw [← Int.add_assoc]
    rfl
theorem WSs_all (l : List S36) (o : List Int) : WSs l o o.length = SB (fun a => wt l a * nd l a) o + PC (fun a b => nd l a * wt l b) o := by
  rw [WSs_WL l o o.length 0 (by omega), List.drop_zero, WL_eq]
  simp [WSs, WSe]
theorem SB_perm (f : Int → Int) {o p : List Int} (h : o.Perm p) : SB f o = SB f p := by
  induction h with
  | nil => rfl
  | cons a _ ih => simp only [SB]; rw [ih]
  | swap a b t => simp only [SB]; omega
  | trans _ _ i1 i2 => exact i1.trans i2
theorem PC_perm (c : Int → Int → Int) (hc : ∀ a b, c a b = c b a) {o p : List Int} (h : o.Perm p) : PC c o = PC c p := by
  induction h with
  | nil => rfl
  | cons a h ih => simp only [PC]; rw [ih, SB_perm _ h]
  | swap a b t => simp only [PC, SB]; rw [hc a b]; omega
  | trans _ _ i1 i2 => exact i1.trans i2
theorem SB_le {f g : Int → Int} : ∀ {o : List Int}, (∀ a ∈ o, f a ≤ g a) → SB f o ≤ SB g o
  | [], _ => Int.le_refl _
  | a :: t, h => by
    have h1 := h a (by simp)
    have h2 := SB_le (o := t) (fun b hb => h b (by simp [hb]))
    simp only [SB]
    omega
theorem PC_le {c d : Int → Int → Int} : ∀ {o : List Int}, (∀ a b, c a b ≤ d a b) → PC c o ≤ PC d o
  | [], _ => Int.le_refl _
  | a :: t, h => by
    have h1 := SB_le (f := c a) (g := d a) (o := t) (fun b _ => h a b)
    have h2 := PC_le (o := t) h
    simp only [PC]
    omega
theorem PC_pw {c d : Int → Int → Int} : ∀ {o : List Int}, o.Pairwise (fun a b => c a b ≤ d a b) → PC c o ≤ PC d o
  | [], _ => Int.le_refl _
  | a :: t, h => by
    obtain ⟨h1, h2⟩ := List.pairwise_cons.1 h
    have h1 := SB_le (f := c a) (g := d a) (o := t) h1
    have h2 := PC_pw h2
    simp only [PC]
    omega
/-- Two orders of the same numbers: one in which each pair stands by its ratio has no greater sum. -/
theorem ratio_least (l : List S36) {o p : List Int} (h : o.Perm p) (hp : o.Pairwise (fun a b => nd l a * wt l b ≤ nd l b * wt l a)) : WSs l o o.length ≤ WSs l p p.length := by
  rw [WSs_all, WSs_all, SB_perm _ h]
  have hm : ∀ a b, (fun a b => if nd l a * wt l b ≤ nd l b * wt l a then nd l a * wt l b else nd l b * wt l a) a b = (fun a b => if nd l a * wt l b ≤ nd l b * wt l a then nd l a * wt l b else nd l b * wt l a) b a := by
    intro a b
    show (if _ then _ else _) = (if _ then _ else _)
    split <;> split <;> omega
  have h1 : PC (fun a b => nd l a * wt l b) o ≤ PC (fun a b => if nd l a * wt l b ≤ nd l b * wt l a then nd l a * wt l b else nd l b * wt l a) o := by
    refine PC_pw (hp.imp fun {a b} hab => ?_)
    show _ ≤ if _ then _ else _
    rw [if_pos hab]
    exact Int.le_refl _
  have h2 : PC (fun a b => if nd l a * wt l b ≤ nd l b * wt l a then nd l a * wt l b else nd l b * wt l a) p ≤ PC (fun a b => nd l a * wt l b) p := by
    refine PC_le (fun a b => ?_)
    show (if _ then _ else _) ≤ _
    split <;> omega
  rw [PC_perm _ hm h] at h1
  omega
theorem SB_nn {f : Int → Int} : ∀ {o : List Int}, (∀ a ∈ o, 0 ≤ f a) → 0 ≤ SB f o
  | [], _ => Int.le_refl _
  | a :: t, h => by
    have h1 := h a (by simp)
    have h2 := SB_nn (o := t) (fun b hb => h b (by simp [hb]))
    simp only [SB]
    omega
theorem PC_nn {c : Int → Int → Int} : ∀ {o : List Int}, (∀ a b, 0 ≤ c a b) → 0 ≤ PC c o
  | [], _ => Int.le_refl _
  | a :: t, h => by
    have h1 := SB_nn (f := c a) (o := t) (fun b _ => h a b)
    have h2 := PC_nn (o := t) h
    simp only [PC]
    omega
theorem ndwt_nn {l : List S36} (h : TOK l) (a : Int) : 0 ≤ nd l a ∧ 0 ≤ wt l a := by
  unfold nd wt
  by_cases c : a.toNat < l.length
  · have := h.1 a.toNat (Nat.zero_le _) c
    have e : rd_T36 l a = rd_T36 l ((a.toNat : Nat) : Int) := rfl
    rw [e]
    exact ⟨by have := this.1.1; omega, this.2.1⟩
  · have e : rd_T36 l a = z36 := by
      show l.getD a.toNat _ = _
      rw [List.getD_eq_getElem?_getD, List.getElem?_eq_none (by omega)]; rfl
    rw [e]
    exact ⟨Int.le_refl _, Int.le_refl _⟩
/-- No task is done for nothing. -/
theorem WSs_ge {l : List S36} (h : TOK l) (o : List Int) : SB (fun a => wt l a * nd l a) o ≤ WSs l o o.length := by
  rw [WSs_all]
  have := PC_nn (c := fun a b => nd l a * wt l b) (o := o) (fun a b => Int.mul_nonneg (ndwt_nn h a).1 (ndwt_nn h b).2)
  omega
theorem no_inj (n : Nat) : ∀ (m : Nat) (f : Nat → Int), n < m → (∀ i, i < m → 0 ≤ f i ∧ f i < (n : Int)) → (∀ i, i < m → ∀ j, j < i → f j ≠ f i) → False := by
  induction n with
  | zero => intro m f h h1 _; have := h1 0 h; omega
  | succ n ih =>
    intro m f h h1 h2
    obtain ⟨m, rfl⟩ : ∃ q, m = q + 1 := ⟨m - 1, by omega⟩
    have hv := h1 m (by omega)
    refine ih m (fun i => if f i > f m then f i - 1 else f i) (by omega) (fun i hi => ?_) (fun i hi j hj => ?_)
    · have a := h1 i (by omega)
      have b := h2 m (by omega) i hi
      show 0 ≤ (if f i > f m then f i - 1 else f i) ∧ (if f i > f m then f i - 1 else f i) < (n : Int)
      split <;> omega
    · have a := h2 i (by omega) j hj
      have b := h2 m (by omega) i hi
      have c := h2 m (by omega) j (by omega)
      show (if f j > f m then f j - 1 else f j) ≠ (if f i > f m then f i - 1 else f i)
      split <;> split <;> omega
theorem inj_onto (n : Nat) (f : Nat → Int) (h1 : ∀ i, i < n → 0 ≤ f i ∧ f i < (n : Int)) (h2 : ∀ i, i < n → ∀ j, j < i → f j ≠ f i) (k : Int) (h0 : 0 ≤ k) (hk : k < (n : Int)) : ∃ j, j < n ∧ f j = k := by
  apply Classical.byContradiction
  intro hc
  have hne : ∀ j, j < n → f j ≠ k := fun j hj e => hc ⟨j, hj, e⟩
  refine no_inj (n - 1) n (fun i => if f i > k then f i - 1 else f i) (by omega) (fun i hi => ?_) (fun i hi j hj => ?_)
  · have a := h1 i hi
    have b := hne i hi
    show 0 ≤ (if f i > k then f i - 1 else f i) ∧ (if f i > k then f i - 1 else f i) < ((n - 1 : Nat) : Int)
    split <;> omega
  · have a := h2 i hi j hj
    have b := hne i hi
    have c := hne j (by omega)
    show (if f j > k then f j - 1 else f j) ≠ (if f i > k then f i - 1 else f i)
    split <;> split <;> omega
theorem each_onto {l : List Int} {m : Int} (h : EACH l m) (k : Int) (h0 : 0 ≤ k) (hk : k < m) : ∃ j : Nat, j < l.length ∧ rd l (j : Int) = k :=
  inj_onto l.length (fun j => rd l (j : Int)) (fun i hi => by have := (h.1 i hi).1; have := h.2.2; show 0 ≤ rd l (i : Int) ∧ rd l (i : Int) < _; omega) (fun i hi j hj => (h.1 i hi).2 j hj) k h0 (by have := h.2.2; omega)
/-- The numbers from 0 on. -/
def upto (n : Nat) : List Int := (List.range n).map fun i : Nat => (i : Int)
theorem mem_rd {l : List Int} {a : Int} : a ∈ l ↔ ∃ j : Nat, j < l.length ∧ rd l (j : Int) = a := by
  rw [List.mem_iff_getElem]
  constructor
  · rintro ⟨j, h, e⟩
    exact ⟨j, h, by rw [rd_nat, List.getD_eq_getElem?_getD, List.getElem?_eq_getElem h, ← e]; rfl⟩
  · rintro ⟨j, h, e⟩
    exact ⟨j, h, by rw [rd_nat, List.getD_eq_getElem?_getD, List.getElem?_eq_getElem h] at e; exact e⟩
theorem nodup_rd {l : List Int} : l.Nodup ↔ ∀ i : Nat, i < l.length → ∀ j : Nat, j < i → rd l (j : Int) ≠ rd l (i : Int) := by
  unfold List.Nodup
  rw [List.pairwise_iff_getElem]
  constructor
  · intro h i hi j hj e
    refine h j i (by omega) hi hj ?_
    rw [rd_nat, rd_nat, List.getD_eq_getElem?_getD, List.getD_eq_getElem?_getD, List.getElem?_eq_getElem hi, List.getElem?_eq_getElem (by omega)] at e
    exact e
  · intro h i j hi hj hij e
    refine h j hj i hij ?_
    rw [rd_nat, rd_nat, List.getD_eq_getElem?_getD, List.getD_eq_getElem?_getD, List.getElem?_eq_getElem hi, List.getElem?_eq_getElem hj]
    exact e
theorem mem_upto {n : Nat} {a : Int} : a ∈ upto n ↔ 0 ≤ a ∧ a < (n : Int) := by
  unfold upto
  rw [List.mem_map]
  constructor
  · rintro ⟨i, h, rfl⟩
    rw [List.mem_range] at h
    omega
  · rintro ⟨h0, h1⟩
    exact ⟨a.toNat, by rw [List.mem_range]; omega, by omega⟩
theorem nodup_upto (n : Nat) : (upto n).Nodup := by
  unfold upto List.Nodup
  rw [List.pairwise_map]
  exact List.nodup_range.imp fun {a b} h e => h (by omega)
theorem each_upto {o : List Int} {n : Nat} (h : EACH o (n : Int)) : o.Perm (upto n) := by
  refine (List.perm_ext_iff_of_nodup (nodup_rd.2 fun i hi j hj => (h.1 i hi).2 j hj) (nodup_upto n)).2 fun a => ?_
  rw [mem_upto, mem_rd]
  constructor
  · rintro ⟨j, hj, rfl⟩
    exact (h.1 j hj).1
  · rintro ⟨h0, h1⟩
    exact each_onto h a h0 h1
theorem upto_each {o : List Int} {n : Nat} (h : o.Perm (upto n)) (h1 : 1 ≤ n) (h6 : n ≤ 6) : EACH o (n : Int) := by
  have hn : o.Nodup := h.symm.nodup (nodup_upto n)
  refine ⟨fun i hi => ⟨?_, (nodup_rd.1 hn) i hi⟩, by omega, ?_⟩
  · exact mem_upto.1 (h.mem_iff.1 (rd_mem hi))
  · rw [h.length_eq]; simp [upto]
theorem upto_succ (n : Nat) : upto (n + 1) = upto n ++ [(n : Int)] := by
  unfold upto
  rw [List.range_succ, List.map_append]
  rfl
/-- Whether a goes ahead of b by the ratio. -/
def ltB (l : List S36) (a b : Int) : Bool := decide (nd l a * wt l b < nd l b * wt l a)
/-- The place behind the last one of the first n that x does not go ahead of. -/
def posR (lt : Int → Int → Bool) (x : Int) (A : List Int) : Nat → Nat
  | 0 => 0
  | n + 1 => if lt x (rd A (n : Int)) = true then posR lt x A n else n + 1
theorem posR_le (lt : Int → Int → Bool) (x : Int) (A : List Int) : ∀ n, posR lt x A n ≤ n
  | 0 => Nat.le_refl _
  | n + 1 => by
    unfold posR
    split
    · have := posR_le lt x A n; omega
    · exact Nat.le_refl _
theorem posR_congr {lt lt' : Int → Int → Bool} {x : Int} {A A' : List Int} : ∀ n : Nat, (∀ j : Nat, j < n → lt x (rd A (j : Int)) = lt' x (rd A' (j : Int))) → posR lt x A n = posR lt' x A' n
  | 0, _ => rfl
  | n + 1, h => by
    unfold posR
    rw [h n (by omega), posR_congr n (fun j hj => h j (by omega))]
/-- x put into a row. -/
def insR (lt : Int → Int → Bool) (A : List Int) (x : Int) : List Int := A.take (posR lt x A A.length) ++ [x] ++ A.drop (posR lt x A A.length)
theorem insR_perm (lt : Int → Int → Bool) (A : List Int) (x : Int) : (insR lt A x).Perm (A ++ [x]) := by
  unfold insR
  have h : (A.take (posR lt x A A.length) ++ [x] ++ A.drop (posR lt x A A.length)).Perm (A.take (posR lt x A A.length) ++ A.drop (posR lt x A A.length) ++ [x]) := by
    rw [List.append_assoc, List.append_assoc]
    exact List.Perm.append_left _ List.perm_append_comm
  rw [List.take_append_drop] at h
  exact h
/-- The numbers from 0 on, put in one after the other. -/
def BRn (lt : Int → Int → Bool) : Nat → List Int
  | 0 => []
  | i + 1 => insR lt (BRn lt i) (i : Int)
theorem BRn_perm (lt : Int → Int → Bool) : ∀ n, (BRn lt n).Perm (upto n)
  | 0 => List.Perm.refl _
  | n + 1 => by
    rw [upto_succ]
    exact (insR_perm lt (BRn lt n) (n : Int)).trans ((BRn_perm lt n).append_right _)
theorem BRn_len (lt : Int → Int → Bool) (n : Nat) : (BRn lt n).length = n := by rw [(BRn_perm lt n).length_eq]; simp [upto]
theorem BRn_in (lt : Int → Int → Bool) (n : Nat) : ∀ x ∈ BRn lt n, 0 ≤ x ∧ x < (n : Int) := fun x hx => mem_upto.1 ((BRn_perm lt n).mem_iff.1 hx)
theorem BRn_congr {lt lt' : Int → Int → Bool} {m : Nat} (h : ∀ a b, 0 ≤ a → a < (m : Int) → 0 ≤ b → b < (m : Int) → lt a b = lt' a b) : ∀ n, n ≤ m → BRn lt n = BRn lt' n
  | 0, _ => rfl
  | n + 1, hn => by
    unfold BRn
    rw [BRn_congr h n (by omega)]
    unfold insR
    rw [posR_congr (lt' := lt') (A' := BRn lt' n) (BRn lt' n).length (fun j hj => by
      have := BRn_in lt' n _ (rd_mem hj)
      exact h _ _ (by omega) (by omega) (by omega) (by omega))]
/-- Neighbours exchanged. -/
def sw (l : List Int) (a : Nat) : List Int := (l.set a (rd l ((a + 1 : Nat) : Int))).set (a + 1) (rd l (a : Int))
theorem sw_len (l : List Int) (a : Nat) : (sw l a).length = l.length := by simp [sw]
theorem rd_sw {l : List Int} {a : Nat} (h : a + 1 < l.length) (j : Nat) : rd (sw l a) (j : Int) = if j = a + 1 then rd l (a : Int) else if j = a then rd l ((a + 1 : Nat) : Int) else rd l (j : Int) := by
  unfold sw
  rw [rd_set _ _ _ _ (by rw [List.length_set]; omega), rd_set _ _ _ _ (by omega)]
def SWOK (l : List Int) (a : Int) : Prop := EACH l (l.length : Int) ∧ 0 ≤ a ∧ a ≤ (l.length : Int) - 2
noncomputable def SWV (l : List Int) (a : Int) : List Int × Bool := if dec (SWOK l a) = true then (sw l a.toNat, true) else ([], false)
theorem SWV_pos {l : List Int} {a : Int} (h : SWOK l a) : SWV l a = (sw l a.toNat, true) := by unfold SWV; rw [if_pos (dec_pos h)]
theorem SWV_neg {l : List Int} {a : Int} (h : ¬SWOK l a) : SWV l a = ([], false) := by unfold SWV; rw [if_neg (by rw [dec_neg h]; simp)]
theorem SWV_len (l : List Int) (a : Int) : (SWV l a).1.length ≤ l.length := by
  by_cases h : SWOK l a
  · rw [SWV_pos h]; simp only [sw_len]; omega
  · rw [SWV_neg h]; simp
/-- The beginning of an order. -/
def ORD (o : List Int) (m : Nat) : Prop := ∀ i : Nat, i < o.length → (0 ≤ rd o (i : Int) ∧ rd o (i : Int) < (m : Int)) ∧ ∀ j : Nat, j < i → rd o (j : Int) ≠ rd o (i : Int)
/-- A whole order that goes on o. -/
def EXT (m : Nat) (o p : List Int) : Prop := EACH p (m : Int) ∧ ∀ j : Nat, j < o.length → rd p (j : Int) = rd o (j : Int)
theorem ord_app {o : List Int} {m : Nat} (h : ORD o m) (i : Nat) (hi : i < m) (hn : ∀ j : Nat, j < o.length → rd o (j : Int) ≠ (i : Int)) : ORD (o ++ [(i : Int)]) m := by
  intro q hq
  simp only [List.length_append, List.length_singleton] at hq
  rw [rd_app]
  by_cases e : q < o.length
  · rw [if_pos e]
    refine ⟨(h q e).1, fun j hj => ?_⟩
    rw [rd_app, if_pos (by omega)]
    exact (h q e).2 j hj
  · rw [if_neg e, if_pos (by omega)]
    refine ⟨by omega, fun j hj => ?_⟩
    rw [rd_app, if_pos (by omega)]
    exact hn j (by omega)
/-- Some number is not there yet. -/
theorem ord_more {o : List Int} {m : Nat} (hm : o.length < m) : ∃ i : Nat, i < m ∧ ∀ j : Nat, j < o.length → rd o (j : Int) ≠ (i : Int) := by
  apply Classical.byContradiction
  intro hc
  have hall : ∀ i : Nat, ∃ j : Nat, i < m → j < o.length ∧ rd o (j : Int) = (i : Int) := by
    intro i
    by_cases hi : i < m
    · apply Classical.byContradiction
      intro hn
      exact hc ⟨i, hi, fun j hj e => hn ⟨j, fun _ => ⟨hj, e⟩⟩⟩
    · exact ⟨0, fun h => absurd h hi⟩
  refine no_inj o.length m (fun i => ((hall i).choose : Int)) hm (fun i hi => ?_) (fun i hi j hj => ?_)
  · have := (hall i).choose_spec hi
    show 0 ≤ ((hall i).choose : Int) ∧ ((hall i).choose : Int) < (o.length : Int)
    omega
  · have a := (hall i).choose_spec hi
    have b := (hall j).choose_spec (by omega)
    intro e
    have e' : ((hall j).choose : Int) = ((hall i).choose : Int) := e
    have e2 : (hall j).choose = (hall i).choose := by omega
    rw [e2] at b
    have := a.2
    have := b.2
    omega
theorem ext_app {m : Nat} {o p : List Int} {i : Int} : EXT m (o ++ [i]) p ↔ EXT m o p ∧ rd p (o.length : Int) = i := by
  constructor
  · rintro ⟨h1, h2⟩
    refine ⟨⟨h1, fun j hj => ?_⟩, ?_⟩
    · rw [h2 j (by simp; omega), rd_app, if_pos hj]
    · rw [h2 o.length (by simp), rd_app, if_neg (by omega), if_pos rfl]
  · rintro ⟨⟨h1, h2⟩, h3⟩
    refine ⟨h1, fun j hj => ?_⟩
    simp only [List.length_append, List.length_singleton] at hj
    rw [rd_app]
    by_cases e : j < o.length
    · rw [if_pos e, h2 j e]
    · rw [if_neg e, if_pos (by omega), show j = o.length by omega, h3]
theorem ext_whole {m : Nat} {o : List Int} (h : ORD o m) (hm : o.length = m) (h1 : 1 ≤ m) (h6 : m ≤ 6) : EACH o (m : Int) ∧ ∀ p, EXT m o p → p = o := by
  refine ⟨⟨h, by omega, by omega⟩, fun p hp => ?_⟩
  have hl : p.length = o.length := by have := hp.1.2.2; omega
  exact rd_ext hl (fun j hj => hp.2 j (by omega))
/-- The lesser one, where a negative number is none. -/
def mnv (v b : Int) : Int := if b < 0 then v else if v < 0 ∨ b < v then b else v
theorem mnv_assoc (a b c : Int) (ha : -1 ≤ a) (hb : -1 ≤ b) (hc : -1 ≤ c) : mnv (mnv a b) c = mnv a (mnv b c) := by
  unfold mnv
  repeat' split
  all_goals omega
theorem mnv_ge {a b : Int} (ha : -1 ≤ a) (hb : -1 ≤ b) : -1 ≤ mnv a b := by
  unfold mnv
  repeat' split
  all_goals omega
/-- b is the least sum of the whole orders that go on o. -/
def LST (l : List S36) (o : List Int) (b : Int) : Prop := (∃ p, EXT l.length o p ∧ WSs l p p.length = b) ∧ ∀ p, EXT l.length o p → b ≤ WSs l p p.length
/-- b is the least sum of those that go on o by i or a greater number; -1 if there is none. -/
def LSF (l : List S36) (o : List Int) (i : Nat) (b : Int) : Prop :=
  (b = -1 ∧ ∀ p, EXT l.length o p → rd p (o.length : Int) < (i : Int)) ∨ ((∃ p, (EXT l.length o p ∧ (i : Int) ≤ rd p (o.length : Int)) ∧ WSs l p p.length = b) ∧ ∀ p, EXT l.length o p → (i : Int) ≤ rd p (o.length : Int) → b ≤ WSs l p p.length)
theorem WSs_nn {l : List S36} (h : TOK l) {p : List Int} (he : EACH p (l.length : Int)) : 0 ≤ WSs l p p.length := (WSs_in h (inr_each he) p.length (Nat.le_refl _)).1
theorem LST.nn {l : List S36} {o : List Int} {b : Int} (h : TOK l) (hb : LST l o b) : 0 ≤ b := by
  obtain ⟨⟨p, hp, rfl⟩, _⟩ := hb
  exact WSs_nn h hp.1
theorem LSF.ge {l : List S36} {o : List Int} {i : Nat} {b : Int} (h : TOK l) (hb : LSF l o i b) : -1 ≤ b := by
  rcases hb with ⟨rfl, _⟩ | ⟨⟨p, hp, rfl⟩, _⟩
  · omega
  · have := WSs_nn h hp.1.1; omega
theorem LST.one {l : List S36} {o : List Int} {b c : Int} (hb : LST l o b) (hc : LST l o c) : b = c := by
  obtain ⟨⟨p, hp, e1⟩, h1⟩ := hb
  obtain ⟨⟨q, hq, e2⟩, h2⟩ := hc
  have := h1 q hq
  have := h2 p hp
  omega
theorem LST.whole {l : List S36} (h : TOK l) {o : List Int} (ho : ORD o l.length) (hm : o.length = l.length) : LST l o (WSs l o o.length) := by
  have h1 := h.2
  obtain ⟨he, hu⟩ := ext_whole ho hm (by omega) (by omega)
  refine ⟨⟨o, ⟨he, fun _ _ => rfl⟩, rfl⟩, fun p hp => ?_⟩
  rw [hu p hp]
  exact Int.le_refl _
/-- At the loop's end. -/
theorem LSF.last {l : List S36} {o : List Int} (hm : o.length < l.length) : LSF l o l.length (-1) := by
  refine .inl ⟨rfl, fun p hp => ?_⟩
  have hl := hp.1.2.2
  exact (hp.1.1 o.length (by omega)).1.2
/-- A number that is there is passed by. -/
theorem LSF.pass {l : List S36} {o : List Int} {i : Nat} {b : Int} (hm : o.length < l.length) (h : ∃ j : Nat, j < o.length ∧ rd o (j : Int) = (i : Int)) (hb : LSF l o (i + 1) b) : LSF l o i b := by
  obtain ⟨j, hj, e⟩ := h
  have hne : ∀ p, EXT l.length o p → rd p (o.length : Int) ≠ (i : Int) := by
    intro p hp e2
    have hl := hp.1.2.2
    exact (hp.1.1 o.length (by omega)).2 j hj (by rw [hp.2 j hj, e, e2])
  rcases hb with ⟨h1, h2⟩ | ⟨⟨p, hp, e1⟩, h2⟩
  · refine .inl ⟨h1, fun p hp => ?_⟩
    have := h2 p hp
    have := hne p hp
    omega
  · refine .inr ⟨⟨p, ⟨hp.1, by have := hp.2; omega⟩, e1⟩, fun q hq hi => h2 q hq ?_⟩
    have := hne q hq
    omega
/-- A number that is not there is tried. -/
theorem LSF.try_ {l : List S36} (ht : TOK l) {o : List Int} {i : Nat} {b c : Int} (hc : LST l (o ++ [(i : Int)]) c) (hb : LSF l o (i + 1) b) : LSF l o i (mnv c b) := by
  have c0 := LST.nn ht hc
  obtain ⟨⟨p, hp, e1⟩, h1⟩ := hc
  rw [ext_app] at hp
  rcases hb with ⟨rfl, h2⟩ | ⟨⟨q, hq, e2⟩, h2⟩
  · have e : mnv c (-1) = c := by unfold mnv; rw [if_pos (by omega)]
    rw [e]
    refine .inr ⟨⟨p, ⟨hp.1, by omega⟩, e1⟩, fun q hq hi => h1 q (ext_app.2 ⟨hq, ?_⟩)⟩
    have := h2 q hq
    omega
  · have b0 : 0 ≤ b := e2 ▸ WSs_nn ht hq.1.1
    have hle : ∀ r, EXT l.length o r → (i : Int) ≤ rd r (o.length : Int) → mnv c b ≤ WSs l r r.length := by
      intro r hr hi
      have m1 : mnv c b ≤ c ∧ mnv c b ≤ b := by
        unfold mnv
        rw [if_neg (by omega)]
        split <;> omega
      by_cases e : rd r (o.length : Int) = (i : Int)
      · have := h1 r (ext_app.2 ⟨hr, e⟩); omega
      · have := h2 r hr (by omega); omega
    refine .inr ⟨?_, hle⟩
    by_cases e : b < c
    · refine ⟨q, ⟨hq.1, by have := hq.2; omega⟩, ?_⟩
      rw [e2]; unfold mnv; rw [if_neg (by omega), if_pos (.inr e)]
    · refine ⟨p, ⟨hp.1, by omega⟩, ?_⟩
      rw [e1]; unfold mnv; rw [if_neg (by omega), if_neg (by omega)]
/-- From the first number on. -/
theorem LSF.all {l : List S36} {o : List Int} {b : Int} (hx : ∃ p, EXT l.length o p) (hm : o.length < l.length) (hb : LSF l o 0 b) : LST l o b := by
  have h0 : ∀ p, EXT l.length o p → (0 : Int) ≤ rd p (o.length : Int) := fun p hp => by
    have hl := hp.1.2.2
    exact (hp.1.1 o.length (by omega)).1.1
  rcases hb with ⟨_, h2⟩ | ⟨⟨p, hp, e1⟩, h2⟩
  · obtain ⟨p, hp⟩ := hx
    have := h0 p hp
    have := h2 p hp
    omega
  · exact ⟨⟨p, hp.1, e1⟩, fun q hq => h2 q hq (h0 q hq)⟩
theorem leastw_has {l : List S36} (h : TOK l) : ∃ b, LST l [] b := by
  have hl := h.2
  have : ∀ (d : Nat) (o : List Int), o.length + d = l.length → ORD o l.length → ∃ b, LST l o b := by
    intro d
    induction d with
    | zero => exact fun o hd ho => ⟨_, LST.whole h ho (by omega)⟩
    | succ d ih =>
      intro o hd ho
      have hx : ∃ p, EXT l.length o p := by
        obtain ⟨i, hi, hn⟩ := ord_more (o := o) (m := l.length) (by omega)
        obtain ⟨c, ⟨⟨p, hp, _⟩, _⟩⟩ := ih (o ++ [(i : Int)]) (by simp; omega) (ord_app ho i hi hn)
        exact ⟨p, (ext_app.1 hp).1⟩
      have hf : ∀ e i : Nat, i + e = l.length → ∃ b, LSF l o i b := by
        intro e
        induction e with
        | zero => intro i hi; obtain rfl : i = l.length := by omega
                  exact ⟨_, LSF.last (by omega)⟩
        | succ e ihe =>
          intro i hi
          obtain ⟨b, hb⟩ := ihe (i + 1) (by omega)
          by_cases hx : ∃ j : Nat, j < o.length ∧ rd o (j : Int) = (i : Int)
          · exact ⟨b, LSF.pass (by omega) hx hb⟩
          · obtain ⟨c, hc⟩ := ih (o ++ [(i : Int)]) (by simp; omega) (ord_app ho i (by omega) (fun j hj e => hx ⟨j, hj, e⟩))
            exact ⟨_, LSF.try_ h hc hb⟩
      obtain ⟨b, hb⟩ := hf l.length 0 (by omega)
      exact ⟨b, LSF.all hx (by omega) hb⟩
  exact this l.length [] (by simp) (fun i hi => by simp at hi)
/-- The least sum of all orders; -1 for others. -/
noncomputable def LWV (l : List S36) : Int := @dite _ (TOK l) (Classical.propDecidable _) (fun h => (leastw_has h).choose) (fun _ => -1)
theorem LWV_pos {l : List S36} (h : TOK l) : LST l [] (LWV l) := by
  unfold LWV
  rw [dif_pos h]
  exact (leastw_has h).choose_spec
theorem LWV_neg {l : List S36} (h : ¬TOK l) : LWV l = -1 := by unfold LWV; rw [dif_neg h]
theorem LWV_le {l : List S36} (h : TOK l) {p : List Int} (hp : EACH p (l.length : Int)) : LWV l ≤ WSs l p p.length := (LWV_pos h).2 p ⟨hp, fun j hj => by simp at hj⟩
theorem LWV_at {l : List S36} (h : TOK l) : ∃ p, EACH p (l.length : Int) ∧ WSs l p p.length = LWV l := by
  obtain ⟨⟨p, hp, e⟩, _⟩ := LWV_pos h
  exact ⟨p, hp.1, e⟩
/-- Needs times weights of the first i tasks, added. -/
def TS (l : List S36) : Nat → Int
  | 0 => 0
  | i + 1 => TS l i + nd l (i : Int) * wt l (i : Int)
theorem SB_snoc (f : Int → Int) (a : Int) : ∀ o, SB f (o ++ [a]) = SB f o + f a
  | [] => by simp [SB]
  | b :: t => by rw [List.cons_append]; simp only [SB]; rw [SB_snoc f a t]; omega
theorem TS_SB (l : List S36) : ∀ n, TS l n = SB (fun a => wt l a * nd l a) (upto n)
  | 0 => rfl
  | n + 1 => by rw [upto_succ, SB_snoc, ← TS_SB l n]; simp only [TS]; rw [Int.mul_comm]
theorem TS_le {l : List S36} (h : TOK l) : TS l l.length ≤ LWV l := by
  obtain ⟨p, hp, e⟩ := LWV_at h
  rw [← e, TS_SB, ← SB_perm _ (each_upto hp)]
  exact WSs_ge h p
theorem TS_in {l : List S36} (h : TOK l) : ∀ i : Nat, i ≤ l.length → (0 ≤ TS l i ∧ TS l i ≤ 81 * (i : Int))
  | 0, _ => ⟨Int.le_refl _, by simp [TS]⟩
  | i + 1, hi => by
    have a := TS_in h i (by omega)
    have b := h.1 i (Nat.zero_le _) (by omega)
    have c := mul_in (a := nd l (i : Int)) (b := wt l (i : Int)) (A := 9) (B := 9) (by have := b.1.1; unfold nd; omega) b.1.2 b.2.1 b.2.2
    simp only [TS]
    omega
theorem WSs_zero {l : List S36} (h : ∀ a, wt l a = 0) (p : List Int) : ∀ i, WSs l p i = 0
  | 0 => rfl
  | i + 1 => by
    simp only [WSs]
    rw [WSs_zero h p i, show (rd_T36 l (rd p (i : Int))).f1 = 0 from h _]
    simp
theorem TS_zero {l : List S36} (h : TOK l) (hz : TS l l.length ≤ 0) : ∀ a, wt l a = 0 := by
  have hj : ∀ i : Nat, i ≤ l.length → TS l i ≤ 0 → ∀ j : Nat, j < i → wt l (j : Int) = 0 := by
    intro i
    induction i with
    | zero => intro _ _ j hj; omega
    | succ i ih =>
      intro hi h0 j hj
      have a := TS_in h i (by omega)
      have b := h.1 i (Nat.zero_le _) (by omega)
      have n0 : 0 ≤ nd l (i : Int) * wt l (i : Int) := Int.mul_nonneg (by have := b.1.1; unfold nd; omega) b.2.1
      simp only [TS] at h0
      by_cases e : j = i
      · subst e
        have e0 : nd l (j : Int) * wt l (j : Int) = 0 := by omega
        rcases Int.mul_eq_zero.1 e0 with e1 | e1
        · have := b.1.1; unfold nd at e1; omega
        · exact e1
      · exact ih (by omega) (by omega) j (by omega)
  intro a
  by_cases c : a.toNat < l.length
  · exact hj l.length (Nat.le_refl _) hz a.toNat c
  · have e : rd_T36 l a = z36 := by
      show l.getD a.toNat _ = _
      rw [List.getD_eq_getElem?_getD, List.getElem?_eq_none (by omega)]; rfl
    unfold wt
    rw [e]; rfl
/-- The tasks without weights. -/
def NOW (l o : List S36) : Prop := ∀ j : Nat, j < o.length → rd_T36 o (j : Int) = ⟨(rd_T36 l (j : Int)).f0, 0⟩
theorem now_zero {l o : List S36} (h : TOK l) (hl : o.length = l.length) (hn : NOW l o) : LWV o = 0 := by
  have ho : TOK o := ⟨fun j _ hj => by
    rw [hn j hj]
    exact ⟨(h.1 j (Nat.zero_le _) (by omega)).1, by show (0 : Int) ≤ 0; omega, by show (0 : Int) ≤ 9; omega⟩, by rw [hl]; exact h.2⟩
  obtain ⟨p, hp, e⟩ := LWV_at ho
  rw [← e]
  refine WSs_zero (fun a => ?_) p _
  unfold wt
  by_cases c : a.toNat < o.length
  · have e : rd_T36 o a = rd_T36 o ((a.toNat : Nat) : Int) := rfl
    rw [e, hn _ c]
  · have e : rd_T36 o a = z36 := by
      show o.getD a.toNat _ = _
      rw [List.getD_eq_getElem?_getD, List.getElem?_eq_none (by omega)]; rfl
    rw [e]; rfl
theorem ratio_trans {a b c x y z : Int} (hy : 1 ≤ b) (hx : 0 ≤ a) (hc : 0 ≤ c) (h1 : a * y ≤ b * x) (h2 : b * z ≤ c * y) : a * z ≤ c * x := by
  have e1 : b * (a * z) ≤ b * (c * x) := by
    have t1 : a * (b * z) ≤ a * (c * y) := Int.mul_le_mul_of_nonneg_left h2 hx
    have t2 : c * (a * y) ≤ c * (b * x) := Int.mul_le_mul_of_nonneg_left h1 hc
    have r1 : b * (a * z) = a * (b * z) := Int.mul_left_comm _ _ _
    have r2 : a * (c * y) = c * (a * y) := Int.mul_left_comm _ _ _
    have r3 : b * (c * x) = c * (b * x) := Int.mul_left_comm _ _ _
    omega
  exact Int.le_of_mul_le_mul_left e1 (by omega)
theorem nd_pos {l : List S36} (h : TOK l) {a : Int} (h0 : 0 ≤ a) (h1 : a < (l.length : Int)) : 1 ≤ nd l a := (tin_of h a h0 h1).1.1
theorem insR_sorted {l : List S36} (h : TOK l) {A : List Int} {x : Int} (hA : ∀ a ∈ A, 0 ≤ a ∧ a < (l.length : Int)) (hp : A.Pairwise (fun a b => nd l a * wt l b ≤ nd l b * wt l a)) :
    (insR (ltB l) A x).Pairwise (fun a b => nd l a * wt l b ≤ nd l b * wt l a) := by
  have key : ∀ n : Nat, n ≤ A.length → (∀ j : Nat, posR (ltB l) x A n ≤ j → j < n → ltB l x (rd A (j : Int)) = true) ∧ (∀ q : Nat, posR (ltB l) x A n = q + 1 → ltB l x (rd A (q : Int)) = false) := by
    intro n
    induction n with
    | zero => exact fun _ => ⟨fun j _ hj => by omega, fun q hq => by simp [posR] at hq⟩
    | succ n ih =>
      intro hn
      obtain ⟨i1, i2⟩ := ih (by omega)
      by_cases c : ltB l x (rd A (n : Int)) = true
      · have e : posR (ltB l) x A (n + 1) = posR (ltB l) x A n := by
          show (if _ then _ else _) = _
          rw [if_pos c]
        rw [e]
        refine ⟨fun j h1 h2 => ?_, i2⟩
        by_cases e2 : j = n
        · rw [e2]; exact c
        · exact i1 j h1 (by omega)
      · have e : posR (ltB l) x A (n + 1) = n + 1 := by
          show (if _ then _ else _) = _
          rw [if_neg c]
        rw [e]
        refine ⟨fun j h1 h2 => by omega, fun q hq => ?_⟩
        obtain rfl : q = n := by omega
        simpa using c
  obtain ⟨k1, k2⟩ := key A.length (Nat.le_refl _)
  have hle := posR_le (ltB l) x A A.length
  unfold insR
  generalize posR (ltB l) x A A.length = p at k1 k2 hle ⊢
  have hpp := hp
  rw [← List.take_append_drop p A, List.pairwise_append] at hpp
  rw [List.append_assoc, List.pairwise_append]
  refine ⟨hpp.1, List.pairwise_append.2 ⟨List.pairwise_singleton _ _, hpp.2.1, ?_⟩, ?_⟩
  · intro a ha b hb
    rw [List.mem_singleton.1 ha]
    rw [mem_rd] at hb
    obtain ⟨j, hj, rfl⟩ := hb
    rw [List.length_drop] at hj
    have e : rd (A.drop p) (j : Int) = rd A ((p + j : Nat) : Int) := by
      rw [rd_nat, rd_nat, List.getD_eq_getElem?_getD, List.getElem?_drop, ← List.getD_eq_getElem?_getD]
    rw [e]
    have := of_decide_eq_true (k1 (p + j) (by omega) (by omega))
    omega
  · intro a ha b hb
    rw [List.mem_append] at hb
    rcases hb with hb | hb
    · rw [List.mem_singleton.1 hb]
      rw [mem_rd] at ha
      obtain ⟨j, hj, rfl⟩ := ha
      rw [List.length_take] at hj
      obtain ⟨q, rfl⟩ : ∃ q, p = q + 1 := ⟨p - 1, by omega⟩
      rw [rd_take _ _ _ (by omega)]
      have hq := of_decide_eq_false (k2 q rfl)
      by_cases e : j = q
      · rw [e]; omega
      · have hjq : nd l (rd A (j : Int)) * wt l (rd A (q : Int)) ≤ nd l (rd A (q : Int)) * wt l (rd A (j : Int)) := by
          have := List.pairwise_iff_getElem.1 hp j q (by omega) (by omega) (by omega)
          rw [rd_nat, rd_nat, List.getD_eq_getElem?_getD, List.getD_eq_getElem?_getD, List.getElem?_eq_getElem (by omega), List.getElem?_eq_getElem (by omega)]
          exact this
        have mq := hA _ (rd_mem (show q < A.length by omega))
        exact ratio_trans (nd_pos h mq.1 mq.2) (ndwt_nn h _).1 (ndwt_nn h _).1 hjq (by omega)
    · exact hpp.2.2 a ha b hb
theorem BRn_sorted {l : List S36} (h : TOK l) : ∀ n : Nat, n ≤ l.length → (BRn (ltB l) n).Pairwise (fun a b => nd l a * wt l b ≤ nd l b * wt l a)
  | 0, _ => List.Pairwise.nil
  | n + 1, hn => insR_sorted h (fun a ha => by have := BRn_in (ltB l) n a ha; omega) (BRn_sorted h n (by omega))
/-- The order by the ratio. -/
noncomputable def BRV (l : List S36) : List Int := @ite _ (TOK l) (Classical.propDecidable _) (BRn (ltB l) l.length) []
theorem BRV_pos {l : List S36} (h : TOK l) : BRV l = BRn (ltB l) l.length := by unfold BRV; rw [if_pos h]
theorem BRV_neg {l : List S36} (h : ¬TOK l) : BRV l = [] := by unfold BRV; rw [if_neg h]
theorem BRV_len (l : List S36) : (BRV l).length ≤ l.length := by
  by_cases h : TOK l
  · rw [BRV_pos h, BRn_len]; exact Nat.le_refl _
  · rw [BRV_neg h]; simp
theorem l1In_eq (a b c : Int) : spec_l1In.f a b c = some (dec (b ≤ a ∧ a ≤ c)) := by
  unfold spec_l1In.f
  by_cases h : a ≥ b
  · rw [if_pos h]
    by_cases h2 : a ≤ c
    · rw [decide_eq_true h2, dec_pos ⟨h, h2⟩]
    · rw [decide_eq_false h2, dec_neg (fun x => h2 x.2)]
  · rw [if_neg h, dec_neg (fun x => h x.1)]
theorem l1In_ev (a b c : Int) : Ev (fun _ => spec_l1In.f a b c) (dec (b ≤ a ∧ a ≤ c)) := Ev.congr (fun _ => l1In_eq a b c) (Ev.now _)
theorem sTasksOk_l0 (l : List S36) (hl : l.length ≤ 9223372036854775806) : ∀ d i : Nat, i + d = l.length →
    Ev (fun k => spec_TasksOk.l0 k l (i : Int)) (dec ((∀ j : Nat, i ≤ j → j < l.length → TIn (rd_T36 l (j : Int))) ∧ 1 ≤ (l.length : Int) ∧ (l.length : Int) ≤ 6)) := by
  intro d
  induction d with
  | zero =>
    intro i hi
    refine ev_succ ?_
    simp only [spec_TasksOk.l0]
    refine ev_neg (by omega) (Ev.bind (l1In_ev _ _ _) (ev_some (dec_congr ?_)))
    obtain rfl : i = l.length := by omega
    exact ⟨fun h => ⟨from_end, h⟩, fun h => h.2⟩
  | succ d ih =>
    intro i hi
    refine ev_succ ?_
    simp only [spec_TasksOk.l0]
    have hs := from_step (i := i) (n := l.length) (Q := fun j => TIn (rd_T36 l (j : Int))) (by omega)
    refine ev_pos (by omega) (ev_pos (by omega) (Ev.bind (l1In_ev _ _ _) ?_))
    by_cases h1 : 1 ≤ (rd_T36 l (i : Int)).f0 ∧ (rd_T36 l (i : Int)).f0 ≤ 9
    · refine ev_pos (dec_pos h1) (Ev.bind (l1In_ev _ _ _) ?_)
      by_cases h2 : 0 ≤ (rd_T36 l (i : Int)).f1 ∧ (rd_T36 l (i : Int)).f1 ≤ 9
      · refine ev_pos (dec_pos h2) ?_
        rw [wrap_succ (by omega)]
        refine ev_to (ih (i + 1) (by omega)) (dec_congr ?_)
        rw [hs]
        exact ⟨fun x => ⟨⟨⟨h1, h2⟩, x.1⟩, x.2⟩, fun x => ⟨x.1.2, x.2⟩⟩
      · exact ev_neg (by rw [dec_neg h2]; simp) (ev_some (dec_neg (fun x => h2 (hs.1 x.1).1.2)).symm)
    · exact ev_neg (by rw [dec_neg h1]; simp) (ev_some (dec_neg (fun x => h1 (hs.1 x.1).1.1)).symm)
theorem sTasksOk_ev (l : List S36) (hl : l.length ≤ 9223372036854775806) : Ev (fun k => spec_TasksOk.f k l) (dec (TOK l)) := sTasksOk_l0 l hl l.length 0 (by omega)
theorem sByRatio_l1 {l : List S36} (h : TOK l) {A : List Int} {i : Nat} (hi : i < l.length) (hA : A.length = i) (hr : ∀ a ∈ A, 0 ≤ a ∧ a < (i : Int)) {r : List Int}
    (H : Ev (fun k => spec_ByRatio.l0 k l (insR (ltB l) A (i : Int)) ((i + 1 : Nat) : Int)) r) :
    ∀ n : Nat, n ≤ i → posR (ltB l) (i : Int) A n = posR (ltB l) (i : Int) A A.length → Ev (fun k => spec_ByRatio.l1 k l A (i : Int) (n : Int)) r := by
  have hl := h.2
  have put : ∀ n : Nat, n ≤ i → n = posR (ltB l) (i : Int) A A.length → Ev (fun k => spec_ByRatio.l0 k l (A.take n ++ [(i : Int)] ++ A.drop n) (wrap64 ((i : Int) + 1))) r := by
    intro n _ e
    rw [wrap_succ (by omega)]
    unfold insR at H
    rw [← e] at H
    exact H
  intro n
  induction n with
  | zero =>
    intro hn hp
    refine ev_succ ?_
    simp only [spec_ByRatio.l1, Option.bind_some, List.nil_append, List.length_nil]
    refine ev_neg (by omega) (ev_pos (by omega) (ev_pos (by omega) (ev_pos (by simp) (ev_pos (by simp) (ev_pos (by simp; omega) ?_)))))
    exact put 0 hn (by rw [← hp]; rfl)
  | succ n ih =>
    intro hn hp
    have mn := hr _ (rd_mem (show n < A.length by omega))
    have ta := tin_of h (i : Int) (by omega) (by omega)
    have tb := tin_of h (rd A (n : Int)) mn.1 (by omega)
    have p1 := mul_in (a := (rd_T36 l (i : Int)).f0) (b := (rd_T36 l (rd A (n : Int))).f1) (A := 9) (B := 9) (by have := ta.1.1; omega) ta.1.2 tb.2.1 tb.2.2
    have p2 := mul_in (a := (rd_T36 l (rd A (n : Int))).f0) (b := (rd_T36 l (i : Int)).f1) (A := 9) (B := 9) (by have := tb.1.1; omega) tb.1.2 ta.2.1 ta.2.2
    refine ev_succ ?_
    simp only [spec_ByRatio.l1, Option.bind_some, List.nil_append, List.length_nil]
    rw [show wrap64 (((n + 1 : Nat) : Int) - 1) = (n : Int) by rw [wrap_id (by omega) (by omega)]; omega]
    rw [wrap_id (x := (rd_T36 l (i : Int)).f0 * _) (by omega) (by omega), wrap_id (x := (rd_T36 l (rd A (n : Int))).f0 * _) (by omega) (by omega)]
    refine ev_pos (by omega) (ev_pos (by omega) (ev_pos (by omega) (ev_pos (by omega) (ev_pos (by omega) (ev_pos (by omega) (ev_pos (by omega) ?_))))))
    by_cases c : (rd_T36 l (i : Int)).f0 * (rd_T36 l (rd A (n : Int))).f1 < (rd_T36 l (rd A (n : Int))).f0 * (rd_T36 l (i : Int)).f1
    · refine ev_pos c (ih (by omega) ?_)
      rw [← hp]
      show _ = if _ then _ else _
      rw [if_pos (show ltB l (i : Int) (rd A (n : Int)) = true from decide_eq_true c)]
    · refine ev_neg c (ev_pos (by omega) (ev_pos (by omega) (ev_pos (by simp; omega) (ev_pos (by simp; omega) (ev_pos (by simp; omega) ?_)))))
      refine put (n + 1) hn ?_
      rw [← hp]
      show _ = if _ then _ else _
      rw [if_neg (show ¬ ltB l (i : Int) (rd A (n : Int)) = true from fun e => c (of_decide_eq_true e))]
theorem sByRatio_l0 {l : List S36} (h : TOK l) : ∀ d i : Nat, i + d = l.length → Ev (fun k => spec_ByRatio.l0 k l (BRn (ltB l) i) (i : Int)) (BRn (ltB l) l.length) := by
  have hl := h.2
  intro d
  induction d with
  | zero =>
    intro i hi
    obtain rfl : i = l.length := by omega
    refine ev_succ ?_
    simp only [spec_ByRatio.l0]
    refine ev_neg (by omega) (ev_succ ?_)
    simp only [spec_ByRatio.j1]
    exact ev_neg (by simp) (Ev.now _)
  | succ d ih =>
    intro i hi
    refine ev_succ ?_
    simp only [spec_ByRatio.l0]
    refine ev_pos (by omega) (Ev.bind (sTasksOk_ev l (by omega)) (ev_succ ?_))
    simp only [spec_ByRatio.j1]
    refine ev_pos (dec_pos h) ?_
    rw [BRn_len]
    exact sByRatio_l1 h (by omega) (BRn_len _ _) (BRn_in _ _) (ih (i + 1) (by omega)) i (Nat.le_refl _) (by rw [BRn_len])
theorem sByRatio_ev (l : List S36) (hl : l.length ≤ 9223372036854775806) : Ev (fun k => spec_ByRatio.f k l) (BRV l) := by
  unfold spec_ByRatio.f
  by_cases h : TOK l
  · rw [BRV_pos h]
    exact sByRatio_l0 h l.length 0 (by omega)
  · rw [BRV_neg h]
    refine ev_succ ?_
    simp only [spec_ByRatio.l0]
    have no : Ev (fun k => spec_ByRatio.j1 k l [] 0 false) [] := by
      refine ev_succ ?_
      simp only [spec_ByRatio.j1]
      exact ev_neg (by simp) (Ev.now _)
    by_cases c : (0 : Int) < (l.length : Int)
    · refine ev_pos c (Ev.bind (sTasksOk_ev l hl) ?_)
      rw [dec_neg h]
      exact no
    · exact ev_neg c no
theorem arr_rd {d : Array Int} {n : Nat} (h : n < d.size) : d[n]! = rd d.toList (n : Int) := by
  rw [getElem!_pos d n h, rd_nat, List.getD_eq_getElem?_getD, Array.getElem?_toList, Array.getElem?_eq_getElem h]
  rfl
theorem rd_at (A B : List Int) (x : Int) : rd (A ++ x :: B) (A.length : Int) = x := by
  rw [rd_nat, List.getD_eq_getElem?_getD, List.getElem?_append_right (Nat.le_refl _), Nat.sub_self]
  rfl
theorem rd_ahead {A : List Int} (B : List Int) {j : Nat} (h : j < A.length) : rd (A ++ B) (j : Int) = rd A (j : Int) := by
  rw [rd_nat, rd_nat, List.getD_eq_getElem?_getD, List.getD_eq_getElem?_getD, List.getElem?_append_left h]
theorem set_at (A B : List Int) (x y : Int) : (A ++ x :: B).set A.length y = A ++ y :: B := by
  rw [List.set_append_right _ _ (Nat.le_refl _), Nat.sub_self]
  rfl
theorem insInner_list (lt : Int → Int → Bool) : ∀ (j : Nat) (A B : List Int) (x : Int) (d : Array Int), A.length = j → d.toList = A ++ x :: B →
    (Go.Sort.insInner lt 0 j d).toList = A.take (posR lt x A j) ++ [x] ++ (A.drop (posR lt x A j) ++ B)
  | 0, A, B, x, d, hA, hd => by
    obtain rfl := List.eq_nil_of_length_eq_zero hA
    unfold Go.Sort.insInner
    rw [hd]
    simp [posR]
  | j + 1, A, B, x, d, hA, hd => by
    obtain ⟨A', z, rfl⟩ : ∃ A' z, A = A' ++ [z] := ⟨A.dropLast, A.getLast (by intro e; rw [e] at hA; simp at hA), (List.dropLast_concat_getLast _).symm⟩
    have hA' : A'.length = j := by simpa using hA
    have hs : d.size = j + 1 + 1 + B.length := by rw [← Array.length_toList, hd]; simp [hA']; omega
    have e1 : d[j + 1]! = x := by
      rw [arr_rd (by omega), hd]
      have := rd_at (A' ++ [z]) B x
      rw [hA] at this
      exact this
    have e2 : d[j]! = z := by
      rw [arr_rd (by omega), hd, rd_ahead _ (by omega)]
      have := rd_at A' [] z
      rw [hA'] at this
      exact this
    have e3 : rd (A' ++ [z]) (j : Int) = z := by
      have := rd_at A' [] z
      rw [hA'] at this
      exact this
    unfold Go.Sort.insInner
    rw [e1, e2]
    by_cases c : lt x z = true
    · rw [if_pos (by simp [c])]
      have hsw : (Go.Sort.swp d (j + 1) j).toList = A' ++ x :: (z :: B) := by
        unfold Go.Sort.swp
        rw [e1, e2, Array.toList_setIfInBounds, Array.toList_setIfInBounds, hd]
        have s1 : ((A' ++ [z]) ++ x :: B).set (j + 1) z = (A' ++ [z]) ++ z :: B := by
          have := set_at (A' ++ [z]) B x z
          rw [hA] at this
          exact this
        rw [s1]
        have s2 := set_at A' (z :: B) z x
        rw [hA'] at s2
        rw [List.append_assoc]
        exact s2
      rw [insInner_list lt j A' (z :: B) x _ hA' hsw]
      have hpe : posR lt x (A' ++ [z]) (j + 1) = posR lt x A' j := by
        show (if _ then _ else _) = _
        rw [e3, if_pos c]
        exact posR_congr j (fun q hq => by rw [rd_ahead _ (by omega)])
      rw [hpe]
      have hle := posR_le lt x A' j
      rw [List.take_append_of_le_length (by omega), List.drop_append_of_le_length (by omega)]
      simp
    · rw [if_neg (by simp [c]), hd]
      have hpe : posR lt x (A' ++ [z]) (j + 1) = j + 1 := by
        show (if _ then _ else _) = _
        rw [e3, if_neg c]
      rw [hpe, List.take_of_length_le (by omega), List.drop_of_length_le (by omega)]
      simp
theorem insOuter_list (lt : Int → Int → Bool) (m : Nat) : ∀ (n i : Nat) (d : Array Int), i + n = m → d.toList = BRn lt i ++ (upto m).drop i → (Go.Sort.insOuter lt 0 m i d).toList = BRn lt m
  | 0, i, d, hi, hd => by
    rw [Go.Sort.insOuter, if_neg (by omega), hd, List.drop_of_length_le (by simp [upto]; omega), List.append_nil, show i = m by omega]
  | n + 1, i, d, hi, hd => by
    rw [Go.Sort.insOuter, if_pos (by omega)]
    refine insOuter_list lt m n (i + 1) _ (by omega) ?_
    have hu : (upto m).drop i = (i : Int) :: (upto m).drop (i + 1) := by
      rw [List.drop_eq_getElem_cons (by simp [upto]; omega)]
      simp [upto]
    rw [hu] at hd
    rw [insInner_list lt i (BRn lt i) ((upto m).drop (i + 1)) (i : Int) d (BRn_len lt i) hd]
    show _ = insR lt (BRn lt i) (i : Int) ++ _
    unfold insR
    rw [BRn_len]
    simp
theorem cfB_lt {l : List S36} (h : TOK l) {a b : Int} (a0 : 0 ≤ a) (a1 : a < (l.length : Int)) (b0 : 0 ≤ b) (b1 : b < (l.length : Int)) : ltOf (cfB l) a b = ltB l a b := by
  have ta := tin_of h a a0 a1
  have tb := tin_of h b b0 b1
  have p1 := mul_in (a := (rd_T36 l a).f0) (b := (rd_T36 l b).f1) (A := 9) (B := 9) (by have := ta.1.1; omega) ta.1.2 tb.2.1 tb.2.2
  have p2 := mul_in (a := (rd_T36 l b).f0) (b := (rd_T36 l a).f1) (A := 9) (B := 9) (by have := tb.1.1; omega) tb.1.2 ta.2.1 ta.2.2
  unfold ltOf cfB cmpv clampB ltB nd wt
  rw [if_pos ⟨a0, a1⟩, if_pos ⟨b0, b1⟩, wrap_id (x := (rd_T36 l a).f0 * _) (by omega) (by omega), wrap_id (x := (rd_T36 l b).f0 * _) (by omega) (by omega), wrap_id (by omega) (by omega)]
  rw [decide_eq_decide]
  omega
theorem sortBR_eq {l : List S36} (h : TOK l) : sortBR l (upto l.length) = BRn (ltB l) l.length := by
  unfold sortBR Go.Sort.insertionSort
  have hl : (upto l.length).length = l.length := by simp [upto]
  have h1 := h.2
  have hu : (upto l.length).toArray.toList = BRn (ltOf (cfB l)) (0 + 1) ++ (upto l.length).drop (0 + 1) := by
    have e : upto l.length = (0 : Int) :: (upto l.length).drop 1 := by
      have := List.drop_eq_getElem_cons (l := upto l.length) (i := 0) (by omega)
      rw [List.drop_zero] at this
      rw [this]
      simp [upto]
    show upto l.length = _
    rw [show BRn (ltOf (cfB l)) (0 + 1) = [0] from by simp [BRn, insR, posR]]
    exact e
  rw [hl, insOuter_list (ltOf (cfB l)) l.length (l.length - 1) (0 + 1) _ (by omega) hu, BRn_congr (lt' := ltB l) (m := l.length) (fun a b a0 a1 b0 b1 => cfB_lt h a0 a1 b0 b1) l.length (Nat.le_refl _)]
  have hm : ∀ A : List Int, (∀ x ∈ A, 0 ≤ x ∧ x < (l.length : Int)) → A.map (clampB l.length) = A := by
    intro A
    induction A with
    | nil => intro _; rfl
    | cons a t ih =>
      intro hA
      rw [List.map_cons, ih (fun x hx => hA x (by simp [hx]))]
      unfold clampB
      rw [if_pos (hA a (by simp))]
  exact hm _ (BRn_in _ _)
theorem inumbered_l0 (n : Nat) (hn : n ≤ 1000) : ∀ d i : Nat, i + d = n → Ev (fun k => impl_numbered.l0 k (upto i) (n : Int) (i : Int)) (upto n) := by
  intro d
  induction d with
  | zero =>
    intro i hi
    obtain rfl : i = n := by omega
    refine ev_succ ?_
    simp only [impl_numbered.l0]
    exact ev_neg (by omega) (Ev.now _)
  | succ d ih =>
    intro i hi
    refine ev_succ ?_
    simp only [impl_numbered.l0]
    refine ev_pos (by omega) (ev_pos (by simp [upto]; omega) ?_)
    rw [wrap_succ (by omega), ← upto_succ]
    exact ih (i + 1) (by omega)
theorem inumbered_ev (n : Nat) (hn : n ≤ 1000) : Ev (fun k => impl_numbered.f k (n : Int)) (upto n) := inumbered_l0 n hn n 0 (by omega)
theorem iTasksOk_l0 (l : List S36) (hl : l.length ≤ 9223372036854775806) : ∀ d i : Nat, i + d = l.length →
    Ev (fun k => impl_TasksOk.l0 k l l (l.length : Int) (i : Int)) (dec ((∀ j : Nat, i ≤ j → j < l.length → TIn (rd_T36 l (j : Int))) ∧ 1 ≤ (l.length : Int) ∧ (l.length : Int) ≤ 6)) := by
  intro d
  induction d with
  | zero =>
    intro i hi
    refine ev_succ ?_
    simp only [impl_TasksOk.l0]
    refine ev_neg (by omega) ?_
    obtain rfl : i = l.length := by omega
    by_cases h : (l.length : Int) ≥ 1
    · refine ev_pos h (ev_some ?_)
      rw [dec_of]
      exact dec_congr ⟨fun e => ⟨from_end, h, e⟩, fun e => e.2.2⟩
    · exact ev_neg h (ev_some (dec_neg (fun e => h e.2.1)).symm)
  | succ d ih =>
    intro i hi
    refine ev_succ ?_
    simp only [impl_TasksOk.l0]
    have hs := from_step (i := i) (n := l.length) (Q := fun j => TIn (rd_T36 l (j : Int))) (by omega)
    refine ev_pos (by omega) (ev_pos (by omega) (ev_pos (by omega) ?_))
    by_cases h1 : (rd_T36 l (i : Int)).f0 < 1
    · exact ev_pos h1 (ev_some (dec_neg (fun x => by have := (hs.1 x.1).1.1.1; omega)).symm)
    refine ev_neg h1 ?_
    by_cases h2 : (rd_T36 l (i : Int)).f0 > 9
    · exact ev_pos h2 (ev_some (dec_neg (fun x => by have := (hs.1 x.1).1.1.2; omega)).symm)
    refine ev_neg h2 ?_
    by_cases h3 : (rd_T36 l (i : Int)).f1 < 0
    · exact ev_pos h3 (ev_some (dec_neg (fun x => by have := (hs.1 x.1).1.2.1; omega)).symm)
    refine ev_neg h3 ?_
    by_cases h4 : (rd_T36 l (i : Int)).f1 > 9
    · exact ev_pos h4 (ev_some (dec_neg (fun x => by have := (hs.1 x.1).1.2.2; omega)).symm)
    refine ev_neg h4 ?_
    rw [wrap_succ (by omega)]
    refine ev_to (ih (i + 1) (by omega)) (dec_congr ?_)
    rw [hs]
    exact ⟨fun x => ⟨⟨⟨⟨by omega, by omega⟩, by omega, by omega⟩, x.1⟩, x.2⟩, fun x => ⟨x.1.2, x.2⟩⟩
theorem iTasksOk_ev (l : List S36) (hl : l.length ≤ 9223372036854775806) : Ev (fun k => impl_TasksOk.f k l) (dec (TOK l)) := iTasksOk_l0 l hl l.length 0 (by omega)
theorem iByRatio_ev (l : List S36) (hl : l.length ≤ 9223372036854775806) : Ev (fun k => impl_ByRatio.f k l) (BRV l) := by
  unfold impl_ByRatio.f
  refine Ev.bind (iTasksOk_ev l hl) ?_
  by_cases h : TOK l
  · have h1 := h.2
    have hu : (upto l.length).length = l.length := by simp [upto]
    refine ev_pos (dec_pos h) (Ev.bind (inumbered_ev l.length (by omega)) (ev_pos ⟨by omega, by omega, fun x hx => mem_upto.1 hx⟩ (ev_some ?_)))
    rw [BRV_pos h, sortBR_eq h]
  · exact ev_neg (by rw [dec_neg h]; simp) (ev_some (BRV_neg h).symm)
theorem iweighted_l0 {l : List S36} {o : List Int} (h : TOK l) (ho : INR l o) : ∀ d i : Nat, i + d = o.length → Ev (fun k => impl_weighted.l0 k l (WSs l o i) (WSe l o i) o (o.length : Int) (i : Int)) (WSs l o o.length) := by
  have hl := ho.1
  intro d
  induction d with
  | zero =>
    intro i hi
    obtain rfl : i = o.length := by omega
    refine ev_succ ?_
    simp only [impl_weighted.l0]
    exact ev_neg (by omega) (Ev.now _)
  | succ d ih =>
    intro i hi
    have c := WSe_in h ho i (by omega)
    have c' := WSe_in h ho (i + 1) (by omega)
    have s := WSs_in h ho i (by omega)
    have p := WSp_in h ho i (by omega)
    have r := ho.2 i (by omega)
    have e1 : wrap64 (WSe l o i + (rd_T36 l (rd o (i : Int))).f0) = WSe l o (i + 1) := wrap_id (by simp only [WSe] at c'; omega) (by simp only [WSe] at c'; omega)
    have e2 : wrap64 (WSs l o i + wrap64 ((rd_T36 l (rd o (i : Int))).f1 * WSe l o (i + 1))) = WSs l o (i + 1) := by
      rw [wrap_id (x := _ * _) (by omega) (by omega), wrap_id (by omega) (by omega)]; rfl
    refine ev_succ ?_
    simp only [impl_weighted.l0]
    refine ev_pos (by omega) (ev_pos (by omega) (ev_pos (by omega) (ev_pos r.1 (ev_pos r.2 ?_))))
    rw [e1, e2, wrap_succ (by omega)]
    exact ih (i + 1) (by omega)
theorem iweighted_ev {l : List S36} {o : List Int} (h : TOK l) (ho : INR l o) : Ev (fun k => impl_weighted.f k l o) (WSs l o o.length) := iweighted_l0 h ho o.length 0 (by omega)
theorem Index_l0 (l : List Int) (x : Int) (hl : l.length ≤ 9223372036854775806) : ∀ (d i : Nat), i + d = l.length → (∀ j : Nat, j < i → rd l (j : Int) ≠ x) →
    ∃ r, Ev (fun k => slices_Index_int_int.l0 k l x (l.length : Int) (i : Int)) r ∧ (0 ≤ r ↔ ∃ j : Nat, j < l.length ∧ rd l (j : Int) = x) := by
  intro d
  induction d with
  | zero =>
    intro i hi hr
    refine ⟨-1, ev_succ ?_, ?_⟩
    · simp only [slices_Index_int_int.l0]
      exact ev_neg (by omega) (Ev.now _)
    · constructor
      · intro h; omega
      · rintro ⟨j, h1, h2⟩; exact absurd h2 (hr j (by omega))
  | succ d ih =>
    intro i hi hr
    by_cases h : x = rd l (i : Int)
    · refine ⟨i, ev_succ ?_, ?_⟩
      · simp only [slices_Index_int_int.l0]
        refine ev_pos (by omega) (ev_pos (by omega) (ev_pos (by omega) (ev_pos h (Ev.now _))))
      · exact ⟨fun _ => ⟨i, by omega, h.symm⟩, fun _ => by omega⟩
    · obtain ⟨r, h1, h2⟩ := ih (i + 1) (by omega) (fun j hj => by
        by_cases e : j = i
        · rw [e]; exact fun e2 => h e2.symm
        · exact hr j (by omega))
      refine ⟨r, ev_succ ?_, h2⟩
      simp only [slices_Index_int_int.l0]
      refine ev_pos (by omega) (ev_pos (by omega) (ev_pos (by omega) (ev_neg h ?_)))
      rw [wrap_succ (by omega)]
      exact h1
theorem Contains_ev (l : List Int) (x : Int) (hl : l.length ≤ 9223372036854775806) : Ev (fun k => slices_Contains_int_int.f k l x) (dec (∃ j : Nat, j < l.length ∧ rd l (j : Int) = x)) := by
  unfold slices_Contains_int_int.f
  obtain ⟨r, h1, h2⟩ := Index_l0 l x hl l.length 0 (by omega) (fun j hj => by omega)
  refine Ev.bind (a := r) ?_ (ev_some ?_)
  · unfold slices_Index_int_int.f; exact h1
  · rw [dec_of]; exact dec_congr h2
theorem inr_ord {l : List S36} (h : TOK l) {o : List Int} (ho : ORD o l.length) (hm : o.length ≤ l.length) : INR l o := ⟨by have := h.2; omega, fun i hi => (ho i hi).1⟩
theorem mnv_pos {v n : Int} (hn : 0 ≤ n) : (if v < 0 ∨ n < v then n else v) = mnv v n := by
  unfold mnv
  rw [if_neg (c := n < 0) (by omega)]
theorem iorders_loop {l : List S36} (h : TOK l) {o : List Int} (ho : ORD o l.length) (hm : o.length < l.length)
    (ih : ∀ i : Nat, i < l.length → (∀ j : Nat, j < o.length → rd o (j : Int) ≠ (i : Int)) → ∃ c, LST l (o ++ [(i : Int)]) c ∧ ∀ v, -1 ≤ v → Ev (fun k => impl_orders.g k l (l.length : Int) (o ++ [(i : Int)]) v) (mnv v c)) :
    ∀ d i : Nat, i + d = l.length → ∃ b, LSF l o i b ∧ ∀ v, -1 ≤ v → Ev (fun k => impl_orders.l0 k l (l.length : Int) o v (i : Int)) (mnv v b) := by
  have hl := h.2
  intro d
  induction d with
  | zero =>
    intro i hi
    obtain rfl : i = l.length := by omega
    refine ⟨-1, LSF.last hm, fun v _ => ev_succ ?_⟩
    simp only [impl_orders.l0]
    refine ev_neg (by omega) (ev_some ?_)
    unfold mnv
    rw [if_pos (by omega)]
  | succ d ihd =>
    intro i hi
    obtain ⟨b, hb, hv⟩ := ihd (i + 1) (by omega)
    have hc := Contains_ev o (i : Int) (by omega)
    by_cases hx : ∃ j : Nat, j < o.length ∧ rd o (j : Int) = (i : Int)
    · refine ⟨b, LSF.pass hm hx hb, fun v h1 => ev_succ ?_⟩
      simp only [impl_orders.l0]
      refine ev_pos (by omega) (Ev.bind hc (ev_pos (dec_pos hx) ?_))
      rw [wrap_succ (by omega)]
      exact hv v h1
    · obtain ⟨c, hc1, hc2⟩ := ih i (by omega) (fun j hj e => hx ⟨j, hj, e⟩)
      have c0 := LST.nn h hc1
      refine ⟨mnv c b, LSF.try_ h hc1 hb, fun v h1 => ev_succ ?_⟩
      simp only [impl_orders.l0]
      refine ev_pos (by omega) (Ev.bind hc (ev_neg (by rw [dec_neg hx]; simp) (ev_pos (by omega) (Ev.bind (hc2 v h1) ?_))))
      rw [wrap_succ (by omega), ← mnv_assoc v c b h1 (by omega) (LSF.ge h hb)]
      exact hv _ (mnv_ge h1 (by omega))
theorem iorders_ev {l : List S36} (h : TOK l) : ∀ (d : Nat) (o : List Int), o.length + d = l.length → ORD o l.length → ∃ b, LST l o b ∧ ∀ v, -1 ≤ v → Ev (fun k => impl_orders.g k l (l.length : Int) o v) (mnv v b) := by
  intro d
  induction d with
  | zero =>
    intro o hd ho
    have hw := LST.whole h ho (by omega)
    refine ⟨_, hw, fun v _ => ev_succ ?_⟩
    simp only [impl_orders.g]
    exact ev_pos (by omega) (Ev.bind (iweighted_ev h (inr_ord h ho (by omega))) (ev_some (mnv_pos (LST.nn h hw))))
  | succ d ih =>
    intro o hd ho
    have ih' : ∀ i : Nat, i < l.length → (∀ j : Nat, j < o.length → rd o (j : Int) ≠ (i : Int)) → ∃ c, LST l (o ++ [(i : Int)]) c ∧ ∀ v, -1 ≤ v → Ev (fun k => impl_orders.g k l (l.length : Int) (o ++ [(i : Int)]) v) (mnv v c) :=
      fun i hi hn => ih (o ++ [(i : Int)]) (by simp; omega) (ord_app ho i hi hn)
    obtain ⟨b, hb, hv⟩ := iorders_loop h ho (by omega) ih' l.length 0 (by omega)
    have hx : ∃ p, EXT l.length o p := by
      obtain ⟨i, hi, hn⟩ := ord_more (o := o) (m := l.length) (by omega)
      obtain ⟨c, ⟨⟨p, hp, _⟩, _⟩, _⟩ := ih' i hi hn
      exact ⟨p, (ext_app.1 hp).1⟩
    refine ⟨b, LSF.all hx (by omega) hb, fun v h1 => ev_succ ?_⟩
    simp only [impl_orders.g]
    exact ev_neg (by omega) (hv v h1)
theorem iLeastWeighted_ev (l : List S36) (hl : l.length ≤ 9223372036854775806) : Ev (fun k => impl_LeastWeighted.f k l) (LWV l) := by
  unfold impl_LeastWeighted.f
  refine Ev.bind (iTasksOk_ev l hl) ?_
  by_cases h : TOK l
  · refine ev_pos (dec_pos h) ?_
    obtain ⟨b, hb, hv⟩ := iorders_ev h l.length [] (by simp) (fun i hi => by simp at hi)
    have e : mnv (-1) b = LWV l := by
      rw [LST.one (LWV_pos h) hb]
      have := LST.nn h hb
      unfold mnv
      rw [if_neg (by omega), if_pos (.inl (by omega))]
    exact ev_to (hv (-1) (by omega)) e
  · exact ev_neg (by rw [dec_neg h]; simp) (ev_some (LWV_neg h).symm)
/-- The weighted sum, or -1. -/
noncomputable def WSUM (l : List S36) (o : List Int) : Int := @ite _ (TOK l ∧ EACH o (l.length : Int)) (Classical.propDecidable _) (WSs l o o.length) (-1)
theorem WSUM_pos {l : List S36} {o : List Int} (h : TOK l) (he : EACH o (l.length : Int)) : WSUM l o = WSs l o o.length := by unfold WSUM; exact if_pos ⟨h, he⟩
theorem WSUM_neg {l : List S36} {o : List Int} (h : ¬ (TOK l ∧ EACH o (l.length : Int))) : WSUM l o = -1 := by unfold WSUM; exact if_neg h
theorem iEach_l0 (l : List Int) (m : Int) (hl : l.length ≤ 9223372036854775806) : ∀ d i : Nat, i + d = l.length → (∀ j : Nat, j < i → (0 ≤ rd l (j : Int) ∧ rd l (j : Int) < m) ∧ ∀ j' : Nat, j' < j → rd l (j' : Int) ≠ rd l (j : Int)) →
    Ev (fun k => impl_EachOnce.l0 k l m l (l.length : Int) (i : Int)) (dec (EACH l m)) := by
  intro d
  induction d with
  | zero =>
    intro i hi hr
    refine ev_succ ?_
    simp only [impl_EachOnce.l0]
    refine ev_neg (by omega) ?_
    by_cases h1 : m ≥ 1
    · refine ev_pos h1 ?_
      by_cases h2 : m ≤ 6
      · refine ev_pos h2 (ev_some ?_)
        rw [dec_bool (b := _ == _)]
        refine dec_congr ?_
        simp only [beq_iff_eq]
        exact ⟨fun e => ⟨fun j hj => hr j (by omega), ⟨h1, h2⟩, e⟩, fun e => e.2.2⟩
      · exact ev_neg h2 (ev_some (dec_neg (fun e => h2 e.2.1.2)).symm)
    · exact ev_neg h1 (ev_some (dec_neg (fun e => h1 e.2.1.1)).symm)
  | succ d ih =>
    intro i hi hr
    refine ev_succ ?_
    simp only [impl_EachOnce.l0]
    refine ev_pos (by omega) (ev_pos (by omega) (ev_pos (by omega) ?_))
    by_cases h1 : rd l (i : Int) < 0
    · refine ev_pos h1 (ev_some (dec_neg ?_).symm)
      intro e; have := (e.1 i (by omega)).1.1; omega
    · refine ev_neg h1 ?_
      by_cases h2 : rd l (i : Int) ≥ m
      · refine ev_pos h2 (ev_some (dec_neg ?_).symm)
        intro e; have := (e.1 i (by omega)).1.2; omega
      · refine ev_neg h2 (ev_pos (by omega) (Ev.bind (Contains_ev _ _ (by rw [List.length_take]; omega)) ?_))
        by_cases h3 : ∃ j : Nat, j < (l.take (i : Int).toNat).length ∧ rd (l.take (i : Int).toNat) (j : Int) = rd l (i : Int)
        · refine ev_pos (dec_pos h3) (ev_some (dec_neg ?_).symm)
          intro e
          obtain ⟨j, hj, he⟩ := h3
          have hj' : j < i := by rw [List.length_take] at hj; omega
          rw [show ((i : Int).toNat) = i from rfl, rd_take _ _ _ hj'] at he
          exact (e.1 i (by omega)).2 j hj' he
        · refine ev_neg (by rw [dec_neg h3]; simp) ?_
          rw [wrap_succ (by omega)]
          refine ih (i + 1) (by omega) ?_
          intro j hj
          by_cases e : j = i
          · subst e
            refine ⟨⟨by omega, by omega⟩, fun j' hj' he => h3 ⟨j', ?_, ?_⟩⟩
            · rw [List.length_take]; omega
            · rw [show ((j : Int).toNat) = j from rfl, rd_take _ _ _ hj']; exact he
          · exact hr j (by omega)
theorem iEachOnce_ev (l : List Int) (m : Int) (hl : l.length ≤ 9223372036854775806) : Ev (fun k => impl_EachOnce.f k l m) (dec (EACH l m)) := by
  unfold impl_EachOnce.f
  exact iEach_l0 l m hl l.length 0 (by omega) (fun j hj => by omega)
theorem iWeightedSum_ev (l : List S36) (o : List Int) (hl : l.length ≤ 9223372036854775806) (hl2 : o.length ≤ 9223372036854775806) : Ev (fun k => impl_WeightedSum.f k l o) (WSUM l o) := by
  unfold impl_WeightedSum.f
  refine Ev.bind (iTasksOk_ev l hl) ?_
  by_cases h : TOK l
  · refine ev_pos (dec_pos h) (Ev.bind (iEachOnce_ev o _ hl2) ?_)
    by_cases h2 : EACH o (l.length : Int)
    · exact ev_pos (dec_pos h2) (Ev.bind (iweighted_ev h (inr_each h2)) (ev_some (WSUM_pos h h2).symm))
    · exact ev_neg (by rw [dec_neg h2]; simp) (ev_some (WSUM_neg (fun x => h2 x.2)).symm)
  · exact ev_neg (by rw [dec_neg h]; simp) (ev_some (WSUM_neg (fun x => h x.1)).symm)
/-- Bytes. -/
def BY (l : List Int) : Prop := l.length ≤ 2000 ∧ ∀ j : Nat, j < l.length → 0 ≤ rd l (j : Int) ∧ rd l (j : Int) ≤ 255
theorem by_of {l : List Int} (h : ∀ x ∈ l, (Lit.int .u8 x).wf = true) (j : Nat) (hj : j < l.length) : 0 ≤ rd l (j : Int) ∧ rd l (j : Int) ≤ 255 := by
  have h1 := h _ (rd_mem hj)
  have h2 : (decide (IntKind.u8.min ≤ rd l (j : Int)) && decide (rd l (j : Int) ≤ IntKind.u8.max)) = true := h1
  have a : IntKind.u8.min = 0 := by decide
  have b : IntKind.u8.max = 255 := by decide
  rw [a, b] at h2
  simpa using h2
theorem xor_nonneg {a b : Int} (ha : 0 ≤ a) (ha2 : a < 4611686018427387904) (hb : 0 ≤ b) (hb2 : b < 4611686018427387904) : 0 ≤ Go.bits .xor .i64 a b := by
  obtain ⟨m, rfl⟩ := Int.eq_ofNat_of_zero_le ha
  obtain ⟨n, rfl⟩ := Int.eq_ofNat_of_zero_le hb
  have hm : m < 2 ^ 62 := by omega
  have hn : n < 2 ^ 62 := by omega
  have hx : m ^^^ n < 2 ^ 62 := Nat.xor_lt_two_pow hm hn
  have e : Go.bits .xor .i64 (m : Int) (n : Int) = Go.IntKind.wrap .i64 ((m ^^^ n : Nat) : Int) := by
    show Go.IntKind.wrap .i64 ((BitVec.ofInt 64 (m : Int) ^^^ BitVec.ofInt 64 (n : Int)).toNat : Int) = _
    rw [BitVec.ofInt_natCast, BitVec.ofInt_natCast, BitVec.toNat_xor, BitVec.toNat_ofNat, BitVec.toNat_ofNat, Nat.mod_eq_of_lt (by omega), Nat.mod_eq_of_lt (by omega)]
  rw [e, Go.IntKind.wrap_i64]
  omega
theorem tmod_in {x n : Int} (h : 0 ≤ x) (hn : 0 < n) : 0 ≤ Int.tmod x n ∧ Int.tmod x n < n := ⟨Int.tmod_nonneg _ h, Int.tmod_lt_of_pos _ hn⟩
theorem rd_by {l : List Int} (h : BY l) (x : Int) (h0 : 0 ≤ x) (h1 : x < (l.length : Int)) : 0 ≤ rd l x ∧ rd l x ≤ 255 := by
  obtain ⟨m, rfl⟩ := Int.eq_ofNat_of_zero_le h0
  exact h.2 m (by omega)
theorem pick_ev {l : List Int} (h : BY l) {p : Int} (h0 : 0 ≤ p) (hp : p ≤ 1073741824) (n : Int) : ∃ v, Ev (fun k => spec_l20Rd_pick.f k l p n) (v, p + 1) ∧ 0 ≤ v ∧ (0 < n → v < n) := by
  unfold spec_l20Rd_pick.f
  rw [wrap_id (x := p + 1) (by omega) (by omega)]
  by_cases hn : n < 1
  · refine ⟨0, ev_pos hn (ev_succ ?_), Int.le_refl _, fun h => h⟩
    simp only [spec_l20Rd_pick.j0]
    exact ev_pos (by simp) (Ev.now _)
  · have hl := h.1
    by_cases hz : l.length = 0
    · refine ⟨0, ev_neg hn (ev_succ ?_), Int.le_refl _, fun h => h⟩
      simp only [spec_l20Rd_pick.j0]
      exact ev_pos (by simp [hz]) (Ev.now _)
    · have e1 : wrap64 (p + 1 - 1) = p := by rw [wrap_id (by omega) (by omega)]; omega
      by_cases hlt : p < (l.length : Int)
      · have hb := rd_by h p h0 hlt
        refine ⟨Int.tmod (wrap64 (rd l p)) n, ev_neg hn (ev_succ ?_), ?_⟩
        · simp only [spec_l20Rd_pick.j0, e1]
          exact ev_neg (by rw [beq_iff_eq]; omega) (ev_pos hlt (ev_pos h0 (ev_neg (by omega) (Ev.now _))))
        · rw [wrap_id (by omega) (by omega)]
          exact ⟨(tmod_in hb.1 (by omega)).1, fun _ => (tmod_in hb.1 (by omega)).2⟩
      · have b1 := tmod_in h0 (n := (l.length : Int)) (by omega)
        have r1 := rd_by h _ b1.1 b1.2
        have e2 : wrap64 (wrap64 (p * 7) + 3) = p * 7 + 3 := by rw [wrap_id (x := p * 7) (by omega) (by omega), wrap_id (by omega) (by omega)]
        have b2 := tmod_in (x := p * 7 + 3) (by omega) (n := (l.length : Int)) (by omega)
        have r2 := rd_by h _ b2.1 b2.2
        have d1 : 0 ≤ Int.tdiv p (l.length : Int) := Int.tdiv_nonneg h0 (by omega)
        have d2 : Int.tdiv p (l.length : Int) ≤ p := Int.tdiv_le_self _ h0
        obtain ⟨x, hx⟩ : ∃ x, x = rd l (Int.tmod p (l.length : Int)) * 131 + rd l (Int.tmod (p * 7 + 3) (l.length : Int)) * 1117 + p * 29 + Int.tdiv p (l.length : Int) * 53 := ⟨_, rfl⟩
        have ex : wrap64 (wrap64 (wrap64 (wrap64 (wrap64 (rd l (Int.tmod p (l.length : Int))) * 131) + wrap64 (wrap64 (rd l (Int.tmod (p * 7 + 3) (l.length : Int))) * 1117)) + wrap64 (p * 29)) + wrap64 (wrap64 (Int.tdiv p (l.length : Int)) * 53)) = x := by
          rw [wrap_id (x := rd l (Int.tmod p (l.length : Int))) (by omega) (by omega), wrap_id (x := rd l (Int.tmod (p * 7 + 3) (l.length : Int))) (by omega) (by omega), wrap_id (x := Int.tdiv p (l.length : Int)) (by omega) (by omega),
            wrap_id (x := rd l (Int.tmod p (l.length : Int)) * 131) (by omega) (by omega), wrap_id (x := rd l (Int.tmod (p * 7 + 3) (l.length : Int)) * 1117) (by omega) (by omega), wrap_id (x := p * 29) (by omega) (by omega),
            wrap_id (x := Int.tdiv p (l.length : Int) * 53) (by omega) (by omega), wrap_id (x := rd l (Int.tmod p (l.length : Int)) * 131 + _) (by omega) (by omega), wrap_id (x := rd l (Int.tmod p (l.length : Int)) * 131 + rd l (Int.tmod (p * 7 + 3) (l.length : Int)) * 1117 + p * 29) (by omega) (by omega), wrap_id (by omega) (by omega), hx]
        have hx0 : 0 ≤ x := by omega
        have hx1 : x < 4611686018427387904 := by omega
        have d3 : 0 ≤ Int.tdiv x 64 := Int.tdiv_nonneg hx0 (by omega)
        have d4 : Int.tdiv x 64 ≤ x := Int.tdiv_le_self _ hx0
        have e3 : wrap64 (Int.tdiv x 64) = Int.tdiv x 64 := wrap_id (by omega) (by omega)
        have hxor := xor_nonneg hx0 hx1 d3 (by omega)
        refine ⟨Int.tmod (Go.bits .xor .i64 x (Int.tdiv x 64)) n, ev_neg hn (ev_succ ?_), (tmod_in hxor (by omega)).1, fun _ => (tmod_in hxor (by omega)).2⟩
        simp only [spec_l20Rd_pick.j0, e1, e2, ex, e3]
        exact ev_neg (by rw [beq_iff_eq]; omega) (ev_neg hlt (ev_neg (by omega) (ev_pos b1.1 (ev_pos b1.2 (ev_pos b2.1 (ev_pos b2.2 (ev_neg (by omega) (Ev.now _))))))))
theorem odd_ev {l : List Int} (h : BY l) {p : Int} (h0 : 0 ≤ p) (hp : p ≤ 1073741824) (n : Int) : ∃ b q, Ev (fun k => spec_l20Rd_odd.f k l p n) (b, q) ∧ 0 ≤ q ∧ q ≤ p + 1 := by
  unfold spec_l20Rd_odd.f
  by_cases hn : n > 0
  · obtain ⟨v, hv, _⟩ := pick_ev h h0 hp n
    exact ⟨_, _, ev_pos hn (Ev.bind hv (Ev.now _)), by simp only; omega, by simp only; omega⟩
  · exact ⟨_, _, ev_neg hn (Ev.now _), h0, by omega⟩
theorem l20Tasks_l0 {B : List Int} (h : BY B) (n hi : Int) (hh : 1 ≤ hi ∧ hi ≤ 9) : ∀ (d : Nat) (o : List S36) (p : Int), 0 ≤ p → p + 2 * d ≤ 1073741000 → o.length + d ≤ 100 → 1 ≤ o.length + d →
    ∃ t q, Ev (fun k => spec_l20Tasks.l0 k n o hi (d : Int) B p) (t, q) ∧ t.length ≤ 101 ∧ 0 ≤ q ∧ q ≤ p + 2 * d + 2 := by
  intro d
  induction d with
  | zero =>
    intro o p h0 hp ho ho1
    obtain ⟨b, q, hb, hq0, hq⟩ := odd_ev h h0 (by omega) n
    cases b with
    | true =>
      obtain ⟨v, hv, hv0, hv3⟩ := pick_ev h hq0 (by omega) 3
      by_cases e0 : v = 0
      · refine ⟨[], q + 1, ev_succ ?_, by simp, by omega, by omega⟩
        simp only [spec_l20Tasks.l0]
        exact ev_neg (by simp) (Ev.bind hb (ev_pos rfl (Ev.bind hv (ev_pos e0 (Ev.now _)))))
      · by_cases e1 : v = 1
        · refine ⟨o.set 0 ⟨0, (rd_T36 o 0).f1⟩, q + 1, ev_succ ?_, by rw [List.length_set]; omega, by omega, by omega⟩
          simp only [spec_l20Tasks.l0]
          exact ev_neg (by simp) (Ev.bind hb (ev_pos rfl (Ev.bind hv (ev_neg e0 (ev_pos e1 (ev_pos (by omega) (Ev.now _)))))))
        · refine ⟨o ++ [⟨1, 10⟩], q + 1, ev_succ ?_, by simp; omega, by omega, by omega⟩
          simp only [spec_l20Tasks.l0]
          exact ev_neg (by simp) (Ev.bind hb (ev_pos rfl (Ev.bind hv (ev_neg e0 (ev_neg e1 (ev_pos (by omega) (Ev.now _)))))))
    | false =>
      refine ⟨o, q, ev_succ ?_, by omega, by omega, by omega⟩
      simp only [spec_l20Tasks.l0]
      exact ev_neg (by simp) (Ev.bind hb (ev_neg (by simp) (Ev.now _)))
  | succ d ih =>
    intro o p h0 hp ho ho1
    obtain ⟨v, hv, hv0, _⟩ := pick_ev h h0 (by omega) hi
    obtain ⟨u, hu, hu0, _⟩ := pick_ev h (p := p + 1) (by omega) (by omega) (wrap64 (hi + 1))
    obtain ⟨t, q, ht, hl, hq0, hq⟩ := ih (o ++ [⟨wrap64 (1 + v), u⟩]) (p + 1 + 1) (by omega) (by omega) (by simp; omega) (by simp; omega)
    refine ⟨t, q, ev_succ ?_, hl, hq0, by omega⟩
    simp only [spec_l20Tasks.l0]
    refine ev_pos (by omega) (Ev.bind hv (Ev.bind hu (ev_pos (by omega) ?_)))
    rw [show wrap64 (((d + 1 : Nat) : Int) - 1) = (d : Int) by rw [wrap_id (by omega) (by omega)]; omega]
    exact ht
theorem l20Tasks_ev {B : List Int} (h : BY B) {p : Int} (h0 : 0 ≤ p) (hp : p ≤ 1000000) (n : Int) : ∃ t q, Ev (fun k => spec_l20Tasks.f k B p n) (t, q) ∧ t.length ≤ 101 ∧ 0 ≤ q ∧ q ≤ p + 20 := by
  unfold spec_l20Tasks.f
  obtain ⟨v, hv, hv0, hv2⟩ := pick_ev h h0 (by omega) 2
  obtain ⟨u, hu, hu0, hu5⟩ := pick_ev h (p := p + 1) (by omega) (by omega) 5
  have hh : 1 ≤ rd [3, 9] v ∧ rd [3, 9] v ≤ 9 := by
    have : v = 0 ∨ v = 1 := by have := hv2 (by omega); omega
    rcases this with rfl | rfl <;> decide
  obtain ⟨d, hd⟩ := Int.eq_ofNat_of_zero_le (show 0 ≤ 1 + u by omega)
  have hu5 := hu5 (by omega)
  obtain ⟨t, q, ht, hl, hq0, hq⟩ := l20Tasks_l0 h n _ hh d [] (p + 1 + 1) (by omega) (by omega) (by simp; omega) (by simp; omega)
  refine ⟨t, q, ?_, hl, hq0, by omega⟩
  refine Ev.bind (Ev.now _) (Ev.bind hv (ev_pos hv0 (ev_pos (by simp; omega) (Ev.bind hu ?_))))
  simp only
  rw [wrap_id (x := 1 + u) (by omega) (by omega), hd]
  exact ht
theorem open_ev {l : List Int} (h : ∀ x ∈ l, (Lit.int .u8 x).wf = true) : ∃ q, BY q ∧ Ev (fun _ => spec_l20Open.f l) (q, 0) := by
  unfold spec_l20Open.f
  by_cases h1 : (l.length : Int) > 2000
  · refine ⟨l.take 2000, ⟨by rw [List.length_take]; omega, fun j hj => ?_⟩, ev_pos h1 (ev_pos (by omega) (Ev.now _))⟩
    rw [List.length_take] at hj
    rw [rd_take _ _ _ (by omega)]
    exact by_of h j (by omega)
  · exact ⟨l, ⟨by omega, fun j hj => by_of h j hj⟩, ev_neg h1 (Ev.now _)⟩
theorem DrawByRatio_ev {l : List Int} (h : ∀ x ∈ l, (Lit.int .u8 x).wf = true) : ∃ t, Ev (fun k => spec_DrawByRatio.f k l) t ∧ t.length ≤ 101 := by
  unfold spec_DrawByRatio.f
  obtain ⟨B, hB, ho⟩ := open_ev h
  obtain ⟨t, q, ht, hl, _⟩ := l20Tasks_ev hB (p := 0) (by omega) (by omega) 9
  exact ⟨t, Ev.bind ho (Ev.bind ht (Ev.now _)), hl⟩
theorem sameInts_l0 (a b : List Int) (hl : a.length ≤ 9223372036854775806) (hb : a = b) : ∀ (d i : Nat), i + d = a.length → Ev (fun k => laws_sameInts.l0 k a b (i : Int)) true := by
  subst hb
  intro d
  induction d with
  | zero =>
    intro i hi
    refine ev_succ ?_
    simp only [laws_sameInts.l0]
    exact ev_neg (by omega) (Ev.now _)
  | succ d ih =>
    intro i hi
    refine ev_succ ?_
    simp only [laws_sameInts.l0]
    rw [wrap_succ (i := i) (by omega)]
    exact ev_pos (by omega) (ev_pos (by omega) (ev_pos (by omega) (ev_pos (by simp) (ih (i + 1) (by omega)))))
theorem sameInts_ev (a b : List Int) (hl : a.length ≤ 9223372036854775806) (hb : a = b) : Ev (fun k => laws_sameInts.f k a b) true := by
  unfold laws_sameInts.f
  exact ev_pos (by rw [hb]) (sameInts_l0 a b hl hb a.length 0 (by omega))
theorem sCustomer_nat (l : List S60) (i : Nat) : rd_T60 l (i : Int) = l.getD i z60 := rfl
theorem sCustomer_get {l : List S60} {i : Nat} (h : i < l.length) : rd_T60 l (i : Int) = l[i] := by
  rw [sCustomer_nat, List.getD_eq_getElem?_getD, List.getElem?_eq_getElem h]; rfl
theorem sCustomer_set (l : List S60) (i j : Nat) (v : S60) (h : i < l.length) : rd_T60 (l.set i v) (j : Int) = if j = i then v else rd_T60 l (j : Int) := by
  rw [sCustomer_nat, sCustomer_nat, List.getD_eq_getElem?_getD, List.getElem?_set]
  by_cases e : i = j
  · subst e; rw [if_pos rfl, if_pos h, if_pos rfl]; rfl
  · rw [if_neg e, if_neg (fun x => e x.symm), ← List.getD_eq_getElem?_getD]
theorem sCustomer_app (l : List S60) (v : S60) (j : Nat) : rd_T60 (l ++ [v]) (j : Int) = if j < l.length then rd_T60 l (j : Int) else if j = l.length then v else z60 := by
  rw [sCustomer_nat, sCustomer_nat, List.getD_eq_getElem?_getD, List.getD_eq_getElem?_getD, List.getElem?_append]
  by_cases h : j < l.length
  · rw [if_pos h, if_pos h]
  · rw [if_neg h, if_neg h]
    by_cases e : j = l.length
    · subst e; rw [if_pos rfl]; simp
    · rw [if_neg e, List.getElem?_eq_none (by simp; omega)]; rfl
theorem sCustomer_take (l : List S60) (n j : Nat) (h : j < n) : rd_T60 (l.take n) (j : Int) = rd_T60 l (j : Int) := by
  rw [sCustomer_nat, sCustomer_nat, List.getD_eq_getElem?_getD, List.getElem?_take, if_pos h, ← List.getD_eq_getElem?_getD]
theorem sCustomer_drop (l : List S60) (n j : Nat) : rd_T60 (l.drop n) (j : Int) = rd_T60 l ((n + j : Nat) : Int) := by
  rw [sCustomer_nat, sCustomer_nat, List.getD_eq_getElem?_getD, List.getElem?_drop, ← List.getD_eq_getElem?_getD]
theorem sCustomer_ext {a b : List S60} (hl : a.length = b.length) (h : ∀ j : Nat, j < a.length → rd_T60 a (j : Int) = rd_T60 b (j : Int)) : a = b := by
  refine List.ext_getElem hl fun j h1 h2 => ?_
  have := h j h1
  rw [sCustomer_get h1, sCustomer_get h2] at this
  exact this
def CIn (l : List S60) (j : Nat) : Prop := (0 ≤ (rd_T60 l (j : Int)).f0 ∧ (rd_T60 l (j : Int)).f0 ≤ 60) ∧ (1 ≤ (rd_T60 l (j : Int)).f1 ∧ (rd_T60 l (j : Int)).f1 ≤ 9) ∧ (0 < j → (rd_T60 l ((j : Int) - 1)).f0 ≤ (rd_T60 l (j : Int)).f0)
/-- Customers. -/
def COK (l : List S60) : Prop := (∀ j : Nat, 0 ≤ j → j < l.length → CIn l j) ∧ (l.length : Int) ≤ 8
theorem iCustomersOk_l0 (l : List S60) (hl : l.length ≤ 9223372036854775806) : ∀ d i : Nat, i + d = l.length →
    Ev (fun k => impl_CustomersOk.l0 k l l (l.length : Int) (i : Int)) (dec ((∀ j : Nat, i ≤ j → j < l.length → CIn l j) ∧ (l.length : Int) ≤ 8)) := by
  intro d
  induction d with
  | zero =>
    intro i hi
    refine ev_succ ?_
    simp only [impl_CustomersOk.l0]
    refine ev_neg (by omega) (ev_some ?_)
    obtain rfl : i = l.length := by omega
    rw [dec_of]
    exact dec_congr ⟨fun h => ⟨from_end, h⟩, fun h => h.2⟩
  | succ d ih =>
    intro i hi
    refine ev_succ ?_
    simp only [impl_CustomersOk.l0]
    have hs := from_step (i := i) (n := l.length) (Q := fun j => CIn l j) (by omega)
    refine ev_pos (by omega) (ev_pos (by omega) (ev_pos (by omega) ?_))
    by_cases h1 : (rd_T60 l (i : Int)).f0 < 0
    · exact ev_pos h1 (ev_some (dec_neg (fun x => by have := (hs.1 x.1).1.1.1; omega)).symm)
    refine ev_neg h1 ?_
    by_cases h2 : (rd_T60 l (i : Int)).f0 > 60
    · exact ev_pos h2 (ev_some (dec_neg (fun x => by have := (hs.1 x.1).1.1.2; omega)).symm)
    refine ev_neg h2 ?_
    rw [wrap_succ (by omega), wrap_pred (by omega)]
    have fin : (0 < i → (rd_T60 l ((i : Int) - 1)).f0 ≤ (rd_T60 l (i : Int)).f0) → Ev (fun k => if (rd_T60 l (i : Int)).f1 < 1 then some false else if (rd_T60 l (i : Int)).f1 > 9 then some false else impl_CustomersOk.l0 k l l (l.length : Int) ((i + 1 : Nat) : Int)) (dec ((∀ j : Nat, i ≤ j → j < l.length → CIn l j) ∧ (l.length : Int) ≤ 8)) := by
      intro hp
      by_cases h3 : (rd_T60 l (i : Int)).f1 < 1
      · exact ev_pos h3 (ev_some (dec_neg (fun x => by have := (hs.1 x.1).1.2.1.1; omega)).symm)
      refine ev_neg h3 ?_
      by_cases h4 : (rd_T60 l (i : Int)).f1 > 9
      · exact ev_pos h4 (ev_some (dec_neg (fun x => by have := (hs.1 x.1).1.2.1.2; omega)).symm)
      refine ev_neg h4 (ev_to (ih (i + 1) (by omega)) (dec_congr ?_))
      rw [hs]
      exact ⟨fun x => ⟨⟨⟨⟨by omega, by omega⟩, ⟨by omega, by omega⟩, hp⟩, x.1⟩, x.2⟩, fun x => ⟨x.1.2, x.2⟩⟩
    by_cases h5 : (i : Int) > 0
    · refine ev_pos h5 (ev_pos (by omega) (ev_pos (by omega) ?_))
      by_cases h6 : (rd_T60 l (i : Int)).f0 < (rd_T60 l ((i : Int) - 1)).f0
      · exact ev_pos h6 (ev_some (dec_neg (fun x => by have := (hs.1 x.1).1.2.2 (by omega); omega)).symm)
      · exact ev_neg h6 (fin (fun _ => by omega))
    · exact ev_neg h5 (fin (fun h => by omega))
theorem iCustomersOk_ev (l : List S60) (hl : l.length ≤ 9223372036854775806) : Ev (fun k => impl_CustomersOk.f k l) (dec (COK l)) := iCustomersOk_l0 l hl l.length 0 (by omega)
theorem alive_ev : Ev (fun k => laws_alive.f k) true := by
  unfold laws_alive.f
  refine Ev.bind (iCustomersOk_ev _ (by decide)) (ev_pos (dec_pos ?_) (Ev.bind (iCustomersOk_ev _ (by decide)) (ev_some ?_)))
  · refine ⟨fun j _ hj => ?_, by decide⟩
    obtain rfl : j = 0 := by simp at hj; omega
    exact ⟨by decide, by decide, fun h => absurd h (by decide)⟩
  · rw [dec_neg]
    · rfl
    · intro h
      exact absurd (h.1 0 (Nat.le_refl _) (by decide)).2.1.1 (by decide)
theorem FnByRatio : laws_FnByRatio.Pure := by
  intro l0 _ _ hb
  refine Ev.rounds ?_
  unfold laws_FnByRatio.f
  by_cases h : (l0.length : Int) > 1048576
  · exact ev_pos h (Ev.now _)
  · obtain ⟨t, ht, hl⟩ := DrawByRatio_ev hb
    have hbl := BRV_len t
    refine ev_neg h (Ev.bind ht (Ev.bind (iByRatio_ev t (by omega)) (Ev.bind (sByRatio_ev t (by omega)) (Ev.bind (sameInts_ev _ _ (by omega) rfl) (ev_pos rfl ?_)))))
    by_cases c : TOK t
    · have h1 := c.2
      have hlen : (BRV t).length = t.length := by rw [BRV_pos c, BRn_len]
      have he : EACH (BRV t) (t.length : Int) := by
        rw [BRV_pos c]
        exact upto_each (BRn_perm _ _) (by omega) (by omega)
      refine ev_neg (by omega) (Ev.bind (iEachOnce_ev _ _ (by omega)) (ev_pos (dec_pos he) (Ev.bind (iWeightedSum_ev t _ (by omega) (by omega)) (Ev.bind (iLeastWeighted_ev t (by omega)) (ev_some ?_)))))
      rw [WSUM_pos c he]
      obtain ⟨p, hp, e⟩ := LWV_at c
      have a := LWV_le c he
      have b : WSs t (BRV t) (BRV t).length ≤ WSs t p p.length := by
        refine ratio_least t ((each_upto he).trans (each_upto hp).symm) ?_
        rw [BRV_pos c]
        exact BRn_sorted c t.length (Nat.le_refl _)
      rw [beq_iff_eq]
      omega
    · rw [BRV_neg c]
      refine ev_pos rfl (Ev.bind (iTasksOk_ev t (by omega)) (ev_neg (by rw [dec_neg c]; simp) (Ev.bind alive_ev (Ev.now _))))
end Go.Proofs.Ytclodndgieefcaa.Pure
