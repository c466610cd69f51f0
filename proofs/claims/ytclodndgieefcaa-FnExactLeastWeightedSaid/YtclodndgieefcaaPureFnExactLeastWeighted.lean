/- The law FnExactLeastWeighted holds for every input; nothing is assumed. -/
import Derived.Test.YtclodndgieefcaaQFnExactLeastWeightedx4
namespace Go.Proofs.Ytclodndgieefcaa.Pure
open Go.RowKit Go.Proofs.Ytclodndgieefcaa.PFnExactLeastWeighted Go.Proofs.YtclodndgieefcaaW.PrintWords Go.Proofs.YtclodndgieefcaaW.PrintLast Go.Proofs.YtclodndgieefcaaW.PrintMore
set_option linter.unusedVariables false
set_option linter.unusedSimpArgs false
theorem ev_succ {α : Type} {g : Nat → Option α} {r : α} (h : Ev (fun k => g (k + 1)) r) : Ev g r := Ev.step (fun _ => rfl) h
theorem ev_pos {α : Type} {c : Prop} [Decidable c] {f g : Nat → Option α} {r : α} (h : c) (k : Ev f r) : Ev (fun n => if c then f n else g n) r := Ev.congr (fun _ => if_pos h) k
theorem ev_neg {α : Type} {c : Prop} [Decidable c] {f g : Nat → Option α} {r : α} (h : ¬c) (k : Ev g r) : Ev (fun n => if c then f n else g n) r := Ev.congr (fun _ => if_neg h) k
theorem ev_some {α : Type} {x r : α} (h : x = r) : Ev (fun _ => some x) r := h ▸ Ev.now x
theorem ev_to {α : Type} {g : Nat → Option α} {a r : α} (h : Ev g a) (e : a = r) : Ev g r := e ▸ h
/-- Whether P. -/
noncomputable def dec (P : Prop) : Bool := @decide P (Classical.propDecidable P)
theorem dec_iff {P : Prop} : dec P = true ↔ P := @decide_eq_true_iff P (Classical.propDecidable P)
theorem dec_pos {P : Prop} (h : P) : dec P = true := dec_iff.2 h
theorem dec_neg {P : Prop} (h : ¬P) : dec P = false := by
  cases e : dec P
  · rfl
  · exact absurd (dec_iff.1 e) h
theorem dec_congr {P Q : Prop} (h : P ↔ Q) : dec P = dec Q := by rw [propext h]
theorem dec_of {P : Prop} [Decidable P] : decide P = dec P := by
  by_cases h : P
  · rw [dec_pos h, decide_eq_true h]
  · rw [dec_neg h, decide_eq_false h]
theorem dec_bool {b : Bool} : b = dec (b = true) := by
  cases b
  · exact (dec_neg (by simp)).symm
  · exact (dec_pos rfl).symm
/-- From i on: at i, and from i + 1 on. -/
theorem from_step {i n : Nat} {Q : Nat → Prop} (h : i < n) : (∀ j, i ≤ j → j < n → Q j) ↔ Q i ∧ ∀ j, i + 1 ≤ j → j < n → Q j := by
  constructor
  · exact fun a => ⟨a i (Nat.le_refl _) h, fun j h1 h2 => a j (by omega) h2⟩
  · intro a j h1 h2
    by_cases e : j = i
    · exact e ▸ a.1
    · exact a.2 j (by omega) h2
theorem from_end {n : Nat} {Q : Nat → Prop} : ∀ j, n ≤ j → j < n → Q j := fun j h1 h2 => by omega
theorem wrap_id {x : Int} (h0 : -9223372036854775808 ≤ x) (h1 : x ≤ 9223372036854775807) : wrap64 x = x := by unfold wrap64; omega
theorem wrap_succ {i : Nat} (h : i ≤ 9223372036854775806) : wrap64 ((i : Int) + 1) = ((i + 1 : Nat) : Int) := by unfold wrap64; omega
theorem wrap_pred {i : Nat} (h : i ≤ 9223372036854775806) : wrap64 ((i : Int) - 1) = (i : Int) - 1 := by unfold wrap64; omega
/-- The bounds of a number of the kind int. -/
def I64 (x : Int) : Prop := -9223372036854775808 ≤ x ∧ x ≤ 9223372036854775807
theorem i64_wf {x : Int} (h : (Lit.int .i64 x).wf = true) : I64 x := by
  have h' : (decide (IntKind.i64.min ≤ x) && decide (x ≤ IntKind.i64.max)) = true := h
  have a : IntKind.i64.min = -9223372036854775808 := by decide
  have b : IntKind.i64.max = 9223372036854775807 := by decide
  rw [a, b] at h'
  simpa [I64] using h'
theorem rd_nat (l : List Int) (i : Nat) : rd l (i : Int) = l.getD i 0 := rfl
theorem rd_set (l : List Int) (i j : Nat) (v : Int) (h : i < l.length) : rd (l.set i v) (j : Int) = if j = i then v else rd l (j : Int) := by
  rw [rd_nat, rd_nat, List.getD_eq_getElem?_getD, List.getElem?_set]
  by_cases e : i = j
  · subst e; rw [if_pos rfl, if_pos h, if_pos rfl]; rfl
  · rw [if_neg e, if_neg (fun x => e x.symm), ← List.getD_eq_getElem?_getD]
theorem rd_app (l : List Int) (v : Int) (j : Nat) : rd (l ++ [v]) (j : Int) = if j < l.length then rd l (j : Int) else if j = l.length then v else 0 := by
  rw [rd_nat, rd_nat, List.getD_eq_getElem?_getD, List.getD_eq_getElem?_getD, List.getElem?_append]
  by_cases h : j < l.length
  · rw [if_pos h, if_pos h]
  · rw [if_neg h, if_neg h]
    by_cases e : j = l.length
    · subst e; rw [if_pos rfl]; simp
    · rw [if_neg e, List.getElem?_eq_none (by simp; omega)]; rfl
theorem rd_take (l : List Int) (n j : Nat) (h : j < n) : rd (l.take n) (j : Int) = rd l (j : Int) := by
  rw [rd_nat, rd_nat, List.getD_eq_getElem?_getD, List.getElem?_take, if_pos h, ← List.getD_eq_getElem?_getD]
theorem rd_ext {a b : List Int} (hl : a.length = b.length) (h : ∀ j : Nat, j < a.length → rd a (j : Int) = rd b (j : Int)) : a = b := by
  refine List.ext_getElem hl fun j h1 h2 => ?_
  have := h j h1
  rw [rd_nat, rd_nat, List.getD_eq_getElem?_getD, List.getD_eq_getElem?_getD, List.getElem?_eq_getElem h1, List.getElem?_eq_getElem h2] at this
  exact this
theorem rd_out (l : List Int) (j : Nat) (h : l.length ≤ j) : rd l (j : Int) = 0 := by
  rw [rd_nat, List.getD_eq_getElem?_getD, List.getElem?_eq_none h]; rfl
theorem rd_mem {l : List Int} {j : Nat} (h : j < l.length) : rd l (j : Int) ∈ l := by
  rw [rd_nat, List.getD_eq_getElem?_getD, List.getElem?_eq_getElem h]; exact List.getElem_mem h
theorem rd_repl (n j : Nat) : rd (List.replicate n (0 : Int)) (j : Int) = 0 := by
  rw [rd_nat, List.getD_eq_getElem?_getD, List.getElem?_replicate]; split <;> rfl
/-- A row has each number from 0 up to m less 1 just once, 1 to 6 of them. -/
def EACH (l : List Int) (m : Int) : Prop := (∀ i : Nat, i < l.length → (0 ≤ rd l (i : Int) ∧ rd l (i : Int) < m) ∧ ∀ j : Nat, j < i → rd l (j : Int) ≠ rd l (i : Int)) ∧ (1 ≤ m ∧ m ≤ 6) ∧ (l.length : Int) = m
theorem no_inj (n : Nat) : ∀ (m : Nat) (f : Nat → Int), n < m → (∀ i, i < m → 0 ≤ f i ∧ f i < (n : Int)) → (∀ i, i < m → ∀ j, j < i → f j ≠ f i) → False := by
  induction n with
  | zero => intro m f h h1 _; have := h1 0 h; omega
  | succ n ih =>
    intro m f h h1 h2
    obtain ⟨m, rfl⟩ : ∃ q, m = q + 1 := ⟨m - 1, by omega⟩
    have hv := h1 m (by omega)
    refine ih m (fun i => if f i > f m then f i - 1 else f i) (by omega) (fun i hi => ?_) (fun i hi j hj => ?_)
    · have a := h1 i (by omega)
      have b := h2 m (by omega) i hi
      show 0 ≤ (if f i > f m then f i - 1 else f i) ∧ (if f i > f m then f i - 1 else f i) < (n : Int)
      split <;> omega
    · have a := h2 i (by omega) j hj
      have b := h2 m (by omega) i hi
      have c := h2 m (by omega) j (by omega)
      show (if f j > f m then f j - 1 else f j) ≠ (if f i > f m then f i - 1 else f i)
      split <;> split <;> omega
theorem inj_onto (n : Nat) (f : Nat → Int) (h1 : ∀ i, i < n → 0 ≤ f i ∧ f i < (n : Int)) (h2 : ∀ i, i < n → ∀ j, j < i → f j ≠ f i) (k : Int) (h0 : 0 ≤ k) (hk : k < (n : Int)) : ∃ j, j < n ∧ f j = k := by
  apply Classical.byContradiction
  intro hc
  have hne : ∀ j, j < n → f j ≠ k := fun j hj e => hc ⟨j, hj, e⟩
  refine no_inj (n - 1) n (fun i => if f i > k then f i - 1 else f i) (by omega) (fun i hi => ?_) (fun i hi j hj => ?_)
  · have a := h1 i hi
    have b := hne i hi
    show 0 ≤ (if f i > k then f i - 1 else f i) ∧ (if f i > k then f i - 1 else f i) < ((n - 1 : Nat) : Int)
    split <;> omega
  · have a := h2 i hi j hj
    have b := hne i hi
    have c := hne j (by omega)
    show (if f j > k then f j - 1 else f j) ≠ (if f i > k then f i - 1 else f i)
    split <;> split <;> omega
/-- Neighbours exchanged. -/
def sw (l : List Int) (a : Nat) : List Int := (l.set a (rd l ((a + 1 : Nat) : Int))).set (a + 1) (rd l (a : Int))
theorem sw_len (l : List Int) (a : Nat) : (sw l a).length = l.length := by simp [sw]
theorem rd_sw {l : List Int} {a : Nat} (h : a + 1 < l.length) (j : Nat) : rd (sw l a) (j : Int) = if j = a + 1 then rd l (a : Int) else if j = a then rd l ((a + 1 : Nat) : Int) else rd l (j : Int) := by
  unfold sw
  rw [rd_set _ _ _ _ (by rw [List.length_set]; omega), rd_set _ _ _ _ (by omega)]
def SWOK (l : List Int) (a : Int) : Prop := EACH l (l.length : Int) ∧ 0 ≤ a ∧ a ≤ (l.length : Int) - 2
noncomputable def SWV (l : List Int) (a : Int) : List Int × Bool := if dec (SWOK l a) = true then (sw l a.toNat, true) else ([], false)
theorem SWV_pos {l : List Int} {a : Int} (h : SWOK l a) : SWV l a = (sw l a.toNat, true) := by unfold SWV; rw [if_pos (dec_pos h)]
theorem SWV_neg {l : List Int} {a : Int} (h : ¬SWOK l a) : SWV l a = ([], false) := by unfold SWV; rw [if_neg (by rw [dec_neg h]; simp)]
theorem SWV_len (l : List Int) (a : Int) : (SWV l a).1.length ≤ l.length := by
  by_cases h : SWOK l a
  · rw [SWV_pos h]; simp only [sw_len]; omega
  · rw [SWV_neg h]; simp
/-- The beginning of an order. -/
def ORD (o : List Int) (m : Nat) : Prop := ∀ i : Nat, i < o.length → (0 ≤ rd o (i : Int) ∧ rd o (i : Int) < (m : Int)) ∧ ∀ j : Nat, j < i → rd o (j : Int) ≠ rd o (i : Int)
/-- A whole order that goes on o. -/
def EXT (m : Nat) (o p : List Int) : Prop := EACH p (m : Int) ∧ ∀ j : Nat, j < o.length → rd p (j : Int) = rd o (j : Int)
theorem ord_app {o : List Int} {m : Nat} (h : ORD o m) (i : Nat) (hi : i < m) (hn : ∀ j : Nat, j < o.length → rd o (j : Int) ≠ (i : Int)) : ORD (o ++ [(i : Int)]) m := by
  intro q hq
  simp only [List.length_append, List.length_singleton] at hq
  rw [rd_app]
  by_cases e : q < o.length
  · rw [if_pos e]
    refine ⟨(h q e).1, fun j hj => ?_⟩
    rw [rd_app, if_pos (by omega)]
    exact (h q e).2 j hj
  · rw [if_neg e, if_pos (by omega)]
    refine ⟨by omega, fun j hj => ?_⟩
    rw [rd_app, if_pos (by omega)]
    exact hn j (by omega)
/-- Some number is not there yet. -/
theorem ord_more {o : List Int} {m : Nat} (hm : o.length < m) : ∃ i : Nat, i < m ∧ ∀ j : Nat, j < o.length → rd o (j : Int) ≠ (i : Int) := by
  apply Classical.byContradiction
  intro hc
  have hall : ∀ i : Nat, ∃ j : Nat, i < m → j < o.length ∧ rd o (j : Int) = (i : Int) := by
    intro i
    by_cases hi : i < m
    · apply Classical.byContradiction
      intro hn
      exact hc ⟨i, hi, fun j hj e => hn ⟨j, fun _ => ⟨hj, e⟩⟩⟩
    · exact ⟨0, fun h => absurd h hi⟩
  refine no_inj o.length m (fun i => ((hall i).choose : Int)) hm (fun i hi => ?_) (fun i hi j hj => ?_)
  · have := (hall i).choose_spec hi
    show 0 ≤ ((hall i).choose : Int) ∧ ((hall i).choose : Int) < (o.length : Int)
    omega
  · have a := (hall i).choose_spec hi
    have b := (hall j).choose_spec (by omega)
    intro e
    have e' : ((hall j).choose : Int) = ((hall i).choose : Int) := e
    have e2 : (hall j).choose = (hall i).choose := by omega
    rw [e2] at b
    have := a.2
    have := b.2
    omega
theorem ext_app {m : Nat} {o p : List Int} {i : Int} : EXT m (o ++ [i]) p ↔ EXT m o p ∧ rd p (o.length : Int) = i := by
  constructor
  · rintro ⟨h1, h2⟩
    refine ⟨⟨h1, fun j hj => ?_⟩, ?_⟩
    · rw [h2 j (by simp; omega), rd_app, if_pos hj]
    · rw [h2 o.length (by simp), rd_app, if_neg (by omega), if_pos rfl]
  · rintro ⟨⟨h1, h2⟩, h3⟩
    refine ⟨h1, fun j hj => ?_⟩
    simp only [List.length_append, List.length_singleton] at hj
    rw [rd_app]
    by_cases e : j < o.length
    · rw [if_pos e, h2 j e]
    · rw [if_neg e, if_pos (by omega), show j = o.length by omega, h3]
theorem ext_whole {m : Nat} {o : List Int} (h : ORD o m) (hm : o.length = m) (h1 : 1 ≤ m) (h6 : m ≤ 6) : EACH o (m : Int) ∧ ∀ p, EXT m o p → p = o := by
  refine ⟨⟨h, by omega, by omega⟩, fun p hp => ?_⟩
  have hl : p.length = o.length := by have := hp.1.2.2; omega
  exact rd_ext hl (fun j hj => hp.2 j (by omega))
theorem sTask_nat (l : List S36) (i : Nat) : rd_T36 l (i : Int) = l.getD i z36 := rfl
theorem sTask_get {l : List S36} {i : Nat} (h : i < l.length) : rd_T36 l (i : Int) = l[i] := by
  rw [sTask_nat, List.getD_eq_getElem?_getD, List.getElem?_eq_getElem h]; rfl
theorem sTask_set (l : List S36) (i j : Nat) (v : S36) (h : i < l.length) : rd_T36 (l.set i v) (j : Int) = if j = i then v else rd_T36 l (j : Int) := by
  rw [sTask_nat, sTask_nat, List.getD_eq_getElem?_getD, List.getElem?_set]
  by_cases e : i = j
  · subst e; rw [if_pos rfl, if_pos h, if_pos rfl]; rfl
  · rw [if_neg e, if_neg (fun x => e x.symm), ← List.getD_eq_getElem?_getD]
theorem sTask_app (l : List S36) (v : S36) (j : Nat) : rd_T36 (l ++ [v]) (j : Int) = if j < l.length then rd_T36 l (j : Int) else if j = l.length then v else z36 := by
  rw [sTask_nat, sTask_nat, List.getD_eq_getElem?_getD, List.getD_eq_getElem?_getD, List.getElem?_append]
  by_cases h : j < l.length
  · rw [if_pos h, if_pos h]
  · rw [if_neg h, if_neg h]
    by_cases e : j = l.length
    · subst e; rw [if_pos rfl]; simp
    · rw [if_neg e, List.getElem?_eq_none (by simp; omega)]; rfl
theorem sTask_take (l : List S36) (n j : Nat) (h : j < n) : rd_T36 (l.take n) (j : Int) = rd_T36 l (j : Int) := by
  rw [sTask_nat, sTask_nat, List.getD_eq_getElem?_getD, List.getElem?_take, if_pos h, ← List.getD_eq_getElem?_getD]
theorem sTask_drop (l : List S36) (n j : Nat) : rd_T36 (l.drop n) (j : Int) = rd_T36 l ((n + j : Nat) : Int) := by
  rw [sTask_nat, sTask_nat, List.getD_eq_getElem?_getD, List.getElem?_drop, ← List.getD_eq_getElem?_getD]
theorem sTask_ext {a b : List S36} (hl : a.length = b.length) (h : ∀ j : Nat, j < a.length → rd_T36 a (j : Int) = rd_T36 b (j : Int)) : a = b := by
  refine List.ext_getElem hl fun j h1 h2 => ?_
  have := h j h1
  rw [sTask_get h1, sTask_get h2] at this
  exact this
def TIn (x : S36) : Prop := (1 ≤ x.f0 ∧ x.f0 ≤ 9) ∧ 0 ≤ x.f1 ∧ x.f1 ≤ 9
/-- Tasks. -/
def TOK (l : List S36) : Prop := (∀ j : Nat, 0 ≤ j → j < l.length → TIn (rd_T36 l (j : Int))) ∧ 1 ≤ (l.length : Int) ∧ (l.length : Int) ≤ 6
/-- When the first i tasks of the order have ended. -/
def WSe (l : List S36) (o : List Int) : Nat → Int
  | 0 => 0
  | i + 1 => WSe l o i + (rd_T36 l (rd o (i : Int))).f0
/-- The weights times the ends of the first i tasks of the order, added. -/
def WSs (l : List S36) (o : List Int) : Nat → Int
  | 0 => 0
  | i + 1 => WSs l o i + (rd_T36 l (rd o (i : Int))).f1 * WSe l o (i + 1)
theorem mul_in {a b A B : Int} (a0 : 0 ≤ a) (a1 : a ≤ A) (b0 : 0 ≤ b) (b1 : b ≤ B) : 0 ≤ a * b ∧ a * b ≤ A * B :=
  ⟨Int.mul_nonneg a0 b0, Int.mul_le_mul a1 b1 b0 (Int.le_trans a0 a1)⟩
/-- An order's places are places of the tasks. -/
def INR (l : List S36) (o : List Int) : Prop := o.length ≤ 6 ∧ ∀ i : Nat, i < o.length → 0 ≤ rd o (i : Int) ∧ rd o (i : Int) < (l.length : Int)
theorem tin_of {l : List S36} (h : TOK l) (x : Int) (h0 : 0 ≤ x) (h1 : x < (l.length : Int)) : TIn (rd_T36 l x) := by
  obtain ⟨m, rfl⟩ := Int.eq_ofNat_of_zero_le h0
  exact h.1 m (Nat.zero_le _) (by omega)
theorem WSe_in {l : List S36} {o : List Int} (h : TOK l) (ho : INR l o) : ∀ i : Nat, i ≤ o.length → 0 ≤ WSe l o i ∧ WSe l o i ≤ 9 * (i : Int)
  | 0, _ => ⟨Int.le_refl _, by simp [WSe]⟩
  | i + 1, hi => by
    have a := WSe_in h ho i (by omega)
    have b := tin_of h _ (ho.2 i (by omega)).1 (ho.2 i (by omega)).2
    have c := b.1
    simp only [WSe]
    omega
theorem WSp_in {l : List S36} {o : List Int} (h : TOK l) (ho : INR l o) (i : Nat) (hi : i < o.length) : 0 ≤ (rd_T36 l (rd o (i : Int))).f1 * WSe l o (i + 1) ∧ (rd_T36 l (rd o (i : Int))).f1 * WSe l o (i + 1) ≤ 9 * 54 := by
  have b := (tin_of h _ (ho.2 i (by omega)).1 (ho.2 i (by omega)).2).2
  have c := WSe_in h ho (i + 1) (by omega)
  have hl := ho.1
  exact mul_in b.1 b.2 c.1 (by omega)
theorem WSs_in {l : List S36} {o : List Int} (h : TOK l) (ho : INR l o) : ∀ i : Nat, i ≤ o.length → 0 ≤ WSs l o i ∧ WSs l o i ≤ 486 * (i : Int)
  | 0, _ => ⟨Int.le_refl _, by simp [WSs]⟩
  | i + 1, hi => by
    have a := WSs_in h ho i (by omega)
    have b := WSp_in h ho i (by omega)
    simp only [WSs]
    omega
theorem inr_each {l : List S36} {o : List Int} (he : EACH o (l.length : Int)) : INR l o := by
  have := he.2
  exact ⟨by omega, fun i hi => (he.1 i hi).1⟩
/-- The lesser one, where a negative number is none. -/
def mnv (v b : Int) : Int := if b < 0 then v else if v < 0 ∨ b < v then b else v
theorem mnv_assoc (a b c : Int) (ha : -1 ≤ a) (hb : -1 ≤ b) (hc : -1 ≤ c) : mnv (mnv a b) c = mnv a (mnv b c) := by
  unfold mnv
  repeat' split
  all_goals omega
theorem mnv_ge {a b : Int} (ha : -1 ≤ a) (hb : -1 ≤ b) : -1 ≤ mnv a b := by
  unfold mnv
  repeat' split
  all_goals omega
/-- b is the least sum of the whole orders that go on o. -/
def LST (l : List S36) (o : List Int) (b : Int) : Prop := (∃ p, EXT l.length o p ∧ WSs l p p.length = b) ∧ ∀ p, EXT l.length o p → b ≤ WSs l p p.length
/-- b is the least sum of those that go on o by i or a greater number; -1 if there is none. -/
def LSF (l : List S36) (o : List Int) (i : Nat) (b : Int) : Prop :=
  (b = -1 ∧ ∀ p, EXT l.length o p → rd p (o.length : Int) < (i : Int)) ∨ ((∃ p, (EXT l.length o p ∧ (i : Int) ≤ rd p (o.length : Int)) ∧ WSs l p p.length = b) ∧ ∀ p, EXT l.length o p → (i : Int) ≤ rd p (o.length : Int) → b ≤ WSs l p p.length)
theorem WSs_nn {l : List S36} (h : TOK l) {p : List Int} (he : EACH p (l.length : Int)) : 0 ≤ WSs l p p.length := (WSs_in h (inr_each he) p.length (Nat.le_refl _)).1
theorem LST.nn {l : List S36} {o : List Int} {b : Int} (h : TOK l) (hb : LST l o b) : 0 ≤ b := by
  obtain ⟨⟨p, hp, rfl⟩, _⟩ := hb
  exact WSs_nn h hp.1
theorem LSF.ge {l : List S36} {o : List Int} {i : Nat} {b : Int} (h : TOK l) (hb : LSF l o i b) : -1 ≤ b := by
  rcases hb with ⟨rfl, _⟩ | ⟨⟨p, hp, rfl⟩, _⟩
  · omega
  · have := WSs_nn h hp.1.1; omega
theorem LST.one {l : List S36} {o : List Int} {b c : Int} (hb : LST l o b) (hc : LST l o c) : b = c := by
  obtain ⟨⟨p, hp, e1⟩, h1⟩ := hb
  obtain ⟨⟨q, hq, e2⟩, h2⟩ := hc
  have := h1 q hq
  have := h2 p hp
  omega
theorem LST.whole {l : List S36} (h : TOK l) {o : List Int} (ho : ORD o l.length) (hm : o.length = l.length) : LST l o (WSs l o o.length) := by
  have h1 := h.2
  obtain ⟨he, hu⟩ := ext_whole ho hm (by omega) (by omega)
  refine ⟨⟨o, ⟨he, fun _ _ => rfl⟩, rfl⟩, fun p hp => ?_⟩
  rw [hu p hp]
  exact Int.le_refl _
/-- At the loop's end. -/
theorem LSF.last {l : List S36} {o : List Int} (hm : o.length < l.length) : LSF l o l.length (-1) := by
  refine .inl ⟨rfl, fun p hp => ?_⟩
  have hl := hp.1.2.2
  exact (hp.1.1 o.length (by omega)).1.2
/-- A number that is there is passed by. -/
theorem LSF.pass {l : List S36} {o : List Int} {i : Nat} {b : Int} (hm : o.length < l.length) (h : ∃ j : Nat, j < o.length ∧ rd o (j : Int) = (i : Int)) (hb : LSF l o (i + 1) b) : LSF l o i b := by
  obtain ⟨j, hj, e⟩ := h
  have hne : ∀ p, EXT l.length o p → rd p (o.length : Int) ≠ (i : Int) := by
    intro p hp e2
    have hl := hp.1.2.2
    exact (hp.1.1 o.length (by omega)).2 j hj (by rw [hp.2 j hj, e, e2])
  rcases hb with ⟨h1, h2⟩ | ⟨⟨p, hp, e1⟩, h2⟩
  · refine .inl ⟨h1, fun p hp => ?_⟩
    have := h2 p hp
    have := hne p hp
    omega
  · refine .inr ⟨⟨p, ⟨hp.1, by have := hp.2; omega⟩, e1⟩, fun q hq hi => h2 q hq ?_⟩
    have := hne q hq
    omega
/-- A number that is not there is tried. -/
theorem LSF.try_ {l : List S36} (ht : TOK l) {o : List Int} {i : Nat} {b c : Int} (hc : LST l (o ++ [(i : Int)]) c) (hb : LSF l o (i + 1) b) : LSF l o i (mnv c b) := by
  have c0 := LST.nn ht hc
  obtain ⟨⟨p, hp, e1⟩, h1⟩ := hc
  rw [ext_app] at hp
  rcases hb with ⟨rfl, h2⟩ | ⟨⟨q, hq, e2⟩, h2⟩
  · have e : mnv c (-1) = c := by unfold mnv; rw [if_pos (by omega)]
    rw [e]
    refine .inr ⟨⟨p, ⟨hp.1, by omega⟩, e1⟩, fun q hq hi => h1 q (ext_app.2 ⟨hq, ?_⟩)⟩
    have := h2 q hq
    omega
  · have b0 : 0 ≤ b := e2 ▸ WSs_nn ht hq.1.1
    have hle : ∀ r, EXT l.length o r → (i : Int) ≤ rd r (o.length : Int) → mnv c b ≤ WSs l r r.length := by
      intro r hr hi
      have m1 : mnv c b ≤ c ∧ mnv c b ≤ b := by
        unfold mnv
        rw [if_neg (by omega)]
        split <;> omega
      by_cases e : rd r (o.length : Int) = (i : Int)
      · have := h1 r (ext_app.2 ⟨hr, e⟩); omega
      · have := h2 r hr (by omega); omega
    refine .inr ⟨?_, hle⟩
    by_cases e : b < c
    · refine ⟨q, ⟨hq.1, by have := hq.2; omega⟩, ?_⟩
      rw [e2]; unfold mnv; rw [if_neg (by omega), if_pos (.inr e)]
    · refine ⟨p, ⟨hp.1, by omega⟩, ?_⟩
      rw [e1]; unfold mnv; rw [if_neg (by omega), if_neg (by omega)]
/-- From the first number on. -/
theorem LSF.all {l : List S36} {o : List Int} {b : Int} (hx : ∃ p, EXT l.length o p) (hm : o.length < l.length) (hb : LSF l o 0 b) : LST l o b := by
  have h0 : ∀ p, EXT l.length o p → (0 : Int) ≤ rd p (o.length : Int) := fun p hp => by
    have hl := hp.1.2.2
    exact (hp.1.1 o.length (by omega)).1.1
  rcases hb with ⟨_, h2⟩ | ⟨⟨p, hp, e1⟩, h2⟩
  · obtain ⟨p, hp⟩ := hx
    have := h0 p hp
    have := h2 p hp
    omega
  · exact ⟨⟨p, hp.1, e1⟩, fun q hq => h2 q hq (h0 q hq)⟩
theorem leastw_has {l : List S36} (h : TOK l) : ∃ b, LST l [] b := by
  have hl := h.2
  have : ∀ (d : Nat) (o : List Int), o.length + d = l.length → ORD o l.length → ∃ b, LST l o b := by
    intro d
    induction d with
    | zero => exact fun o hd ho => ⟨_, LST.whole h ho (by omega)⟩
    | succ d ih =>
      intro o hd ho
      have hx : ∃ p, EXT l.length o p := by
        obtain ⟨i, hi, hn⟩ := ord_more (o := o) (m := l.length) (by omega)
        obtain ⟨c, ⟨⟨p, hp, _⟩, _⟩⟩ := ih (o ++ [(i : Int)]) (by simp; omega) (ord_app ho i hi hn)
        exact ⟨p, (ext_app.1 hp).1⟩
      have hf : ∀ e i : Nat, i + e = l.length → ∃ b, LSF l o i b := by
        intro e
        induction e with
        | zero => intro i hi; obtain rfl : i = l.length := by omega
                  exact ⟨_, LSF.last (by omega)⟩
        | succ e ihe =>
          intro i hi
          obtain ⟨b, hb⟩ := ihe (i + 1) (by omega)
          by_cases hx : ∃ j : Nat, j < o.length ∧ rd o (j : Int) = (i : Int)
          · exact ⟨b, LSF.pass (by omega) hx hb⟩
          · obtain ⟨c, hc⟩ := ih (o ++ [(i : Int)]) (by simp; omega) (ord_app ho i (by omega) (fun j hj e => hx ⟨j, hj, e⟩))
            exact ⟨_, LSF.try_ h hc hb⟩
      obtain ⟨b, hb⟩ := hf l.length 0 (by omega)
      exact ⟨b, LSF.all hx (by omega) hb⟩
  exact this l.length [] (by simp) (fun i hi => by simp at hi)
/-- The least sum of all orders; -1 for others. -/
noncomputable def LWV (l : List S36) : Int := @dite _ (TOK l) (Classical.propDecidable _) (fun h => (leastw_has h).choose) (fun _ => -1)
theorem LWV_pos {l : List S36} (h : TOK l) : LST l [] (LWV l) := by
  unfold LWV
  rw [dif_pos h]
  exact (leastw_has h).choose_spec
theorem LWV_neg {l : List S36} (h : ¬TOK l) : LWV l = -1 := by unfold LWV; rw [dif_neg h]
theorem LWV_le {l : List S36} (h : TOK l) {p : List Int} (hp : EACH p (l.length : Int)) : LWV l ≤ WSs l p p.length := (LWV_pos h).2 p ⟨hp, fun j hj => by simp at hj⟩
theorem LWV_at {l : List S36} (h : TOK l) : ∃ p, EACH p (l.length : Int) ∧ WSs l p p.length = LWV l := by
  obtain ⟨⟨p, hp, e⟩, _⟩ := LWV_pos h
  exact ⟨p, hp.1, e⟩
/-- The weighted sum, or -1. -/
noncomputable def WSUM (l : List S36) (o : List Int) : Int := @ite _ (TOK l ∧ EACH o (l.length : Int)) (Classical.propDecidable _) (WSs l o o.length) (-1)
theorem WSUM_pos {l : List S36} {o : List Int} (h : TOK l) (he : EACH o (l.length : Int)) : WSUM l o = WSs l o o.length := by unfold WSUM; exact if_pos ⟨h, he⟩
theorem WSUM_neg {l : List S36} {o : List Int} (h : ¬ (TOK l ∧ EACH o (l.length : Int))) : WSUM l o = -1 := by unfold WSUM; exact if_neg h
theorem l1In_eq (a b c : Int) : spec_l1In.f a b c = some (dec (b ≤ a ∧ a ≤ c)) := by
  unfold spec_l1In.f
  by_cases h : a ≥ b
  · rw [if_pos h]
    by_cases h2 : a ≤ c
    · rw [decide_eq_true h2, dec_pos ⟨h, h2⟩]
    · rw [decide_eq_false h2, dec_neg (fun x => h2 x.2)]
  · rw [if_neg h, dec_neg (fun x => h x.1)]
theorem l1In_ev (a b c : Int) : Ev (fun _ => spec_l1In.f a b c) (dec (b ≤ a ∧ a ≤ c)) := Ev.congr (fun _ => l1In_eq a b c) (Ev.now _)
theorem sTasksOk_l0 (l : List S36) (hl : l.length ≤ 9223372036854775806) : ∀ d i : Nat, i + d = l.length →
    Ev (fun k => spec_TasksOk.l0 k l (i : Int)) (dec ((∀ j : Nat, i ≤ j → j < l.length → TIn (rd_T36 l (j : Int))) ∧ 1 ≤ (l.length : Int) ∧ (l.length : Int) ≤ 6)) := by
  intro d
  induction d with
  | zero =>
    intro i hi
    refine ev_succ ?_
    simp only [spec_TasksOk.l0]
    refine ev_neg (by omega) (Ev.bind (l1In_ev _ _ _) (ev_some (dec_congr ?_)))
    obtain rfl : i = l.length := by omega
    exact ⟨fun h => ⟨from_end, h⟩, fun h => h.2⟩
  | succ d ih =>
    intro i hi
    refine ev_succ ?_
    simp only [spec_TasksOk.l0]
    have hs := from_step (i := i) (n := l.length) (Q := fun j => TIn (rd_T36 l (j : Int))) (by omega)
    refine ev_pos (by omega) (ev_pos (by omega) (Ev.bind (l1In_ev _ _ _) ?_))
    by_cases h1 : 1 ≤ (rd_T36 l (i : Int)).f0 ∧ (rd_T36 l (i : Int)).f0 ≤ 9
    · refine ev_pos (dec_pos h1) (Ev.bind (l1In_ev _ _ _) ?_)
      by_cases h2 : 0 ≤ (rd_T36 l (i : Int)).f1 ∧ (rd_T36 l (i : Int)).f1 ≤ 9
      · refine ev_pos (dec_pos h2) ?_
        rw [wrap_succ (by omega)]
        refine ev_to (ih (i + 1) (by omega)) (dec_congr ?_)
        rw [hs]
        exact ⟨fun x => ⟨⟨⟨h1, h2⟩, x.1⟩, x.2⟩, fun x => ⟨x.1.2, x.2⟩⟩
      · exact ev_neg (by rw [dec_neg h2]; simp) (ev_some (dec_neg (fun x => h2 (hs.1 x.1).1.2)).symm)
    · exact ev_neg (by rw [dec_neg h1]; simp) (ev_some (dec_neg (fun x => h1 (hs.1 x.1).1.1)).symm)
theorem sTasksOk_ev (l : List S36) (hl : l.length ≤ 9223372036854775806) : Ev (fun k => spec_TasksOk.f k l) (dec (TOK l)) := sTasksOk_l0 l hl l.length 0 (by omega)
def EACHs (l : List Int) (m : Int) (i : Nat) : Prop := (∀ j : Nat, i ≤ j → j < l.length → (0 ≤ rd l (j : Int) ∧ rd l (j : Int) ≤ wrap64 (m - 1)) ∧ ∀ j' : Nat, 0 ≤ j' → j' < j → rd l (j' : Int) ≠ rd l (j : Int)) ∧ (1 ≤ m ∧ m ≤ 6) ∧ (l.length : Int) = m
theorem sEach_l1 (l : List Int) (m : Int) (hl : l.length ≤ 9223372036854775806) (i : Nat) (hi : i < l.length) (R : Prop) (H : Ev (fun k => spec_EachOnce.l0 k l m ((i + 1 : Nat) : Int)) (dec R)) :
    ∀ d j : Nat, j + d = i → Ev (fun k => spec_EachOnce.l1 k l m (i : Int) (j : Int)) (dec ((∀ j' : Nat, j ≤ j' → j' < i → rd l (j' : Int) ≠ rd l (i : Int)) ∧ R)) := by
  intro d
  induction d with
  | zero =>
    intro j hj
    obtain rfl : j = i := by omega
    refine ev_succ ?_
    simp only [spec_EachOnce.l1]
    refine ev_neg (by omega) ?_
    rw [wrap_succ (by omega)]
    exact ev_to H (dec_congr ⟨fun h => ⟨from_end, h⟩, fun h => h.2⟩)
  | succ d ih =>
    intro j hj
    refine ev_succ ?_
    simp only [spec_EachOnce.l1]
    refine ev_pos (by omega) (ev_pos (by omega) (ev_pos (by omega) (ev_pos (by omega) (ev_pos (by omega) ?_))))
    by_cases e : rd l (j : Int) = rd l (i : Int)
    · refine ev_pos e (ev_some (dec_neg ?_).symm)
      intro h; exact h.1 j (Nat.le_refl _) (by omega) e
    · refine ev_neg e ?_
      rw [wrap_succ (by omega)]
      refine ev_to (ih (j + 1) (by omega)) (dec_congr ?_)
      rw [from_step (i := j) (n := i) (by omega)]
      exact ⟨fun h => ⟨⟨e, h.1⟩, h.2⟩, fun h => ⟨h.1.2, h.2⟩⟩
theorem sEach_l0 (l : List Int) (m : Int) (hl : l.length ≤ 9223372036854775806) : ∀ d i : Nat, i + d = l.length → Ev (fun k => spec_EachOnce.l0 k l m (i : Int)) (dec (EACHs l m i)) := by
  intro d
  induction d with
  | zero =>
    intro i hi
    refine ev_succ ?_
    simp only [spec_EachOnce.l0]
    refine ev_neg (by omega) (Ev.bind (l1In_ev _ _ _) ?_)
    obtain rfl : i = l.length := by omega
    by_cases h : 1 ≤ m ∧ m ≤ 6
    · refine ev_pos (dec_pos h) (ev_some ?_)
      rw [dec_bool (b := _ == _)]
      refine dec_congr ?_
      simp only [beq_iff_eq]
      exact ⟨fun e => ⟨from_end, h, e⟩, fun e => e.2.2⟩
    · refine ev_neg (by rw [dec_neg h]; simp) (ev_some (dec_neg (fun e => h e.2.1)).symm)
  | succ d ih =>
    intro i hi
    refine ev_succ ?_
    simp only [spec_EachOnce.l0]
    refine ev_pos (by omega) (ev_pos (by omega) (Ev.bind (l1In_ev _ _ _) ?_))
    have hs := from_step (i := i) (n := l.length) (Q := fun j => (0 ≤ rd l (j : Int) ∧ rd l (j : Int) ≤ wrap64 (m - 1)) ∧ ∀ j' : Nat, 0 ≤ j' → j' < j → rd l (j' : Int) ≠ rd l (j : Int)) (by omega)
    by_cases h : 0 ≤ rd l (i : Int) ∧ rd l (i : Int) ≤ wrap64 (m - 1)
    · refine ev_pos (dec_pos h) ?_
      refine ev_to (sEach_l1 l m hl i (by omega) _ (ih (i + 1) (by omega)) i 0 (by omega)) (dec_congr ?_)
      unfold EACHs
      rw [hs]
      exact ⟨fun x => ⟨⟨⟨h, x.1⟩, x.2.1⟩, x.2.2⟩, fun x => ⟨x.1.1.2, x.1.2, x.2⟩⟩
    · refine ev_neg (by rw [dec_neg h]; simp) (ev_some (dec_neg ?_).symm)
      intro x; exact h (hs.1 x.1).1.1
theorem sEachOnce_ev (l : List Int) (m : Int) (hl : l.length ≤ 9223372036854775806) : Ev (fun k => spec_EachOnce.f k l m) (dec (EACH l m)) := by
  unfold spec_EachOnce.f
  refine ev_to (sEach_l0 l m hl l.length 0 (by omega)) (dec_congr ?_)
  unfold EACHs EACH
  constructor
  · rintro ⟨h, hm, hn⟩
    rw [wrap_id (by omega) (by omega)] at h
    exact ⟨fun i hi => ⟨⟨(h i (by omega) hi).1.1, by have := (h i (by omega) hi).1.2; omega⟩, fun j hj => (h i (by omega) hi).2 j (by omega) hj⟩, hm, hn⟩
  · rintro ⟨h, hm, hn⟩
    rw [wrap_id (by omega) (by omega)]
    exact ⟨fun i _ hi => ⟨⟨(h i hi).1.1, by have := (h i hi).1.2; omega⟩, fun j _ hj => (h i hi).2 j hj⟩, hm, hn⟩
theorem sWeighted_l0 {l : List S36} {o : List Int} (h : TOK l) (ho : INR l o) : ∀ d i : Nat, i + d = o.length → Ev (fun k => spec_WeightedSum.l0 k l o (WSs l o i) (WSe l o i) (i : Int)) (WSs l o o.length) := by
  have hl := ho.1
  intro d
  induction d with
  | zero =>
    intro i hi
    obtain rfl : i = o.length := by omega
    refine ev_succ ?_
    simp only [spec_WeightedSum.l0]
    exact ev_neg (by omega) (Ev.now _)
  | succ d ih =>
    intro i hi
    have c := WSe_in h ho i (by omega)
    have c' := WSe_in h ho (i + 1) (by omega)
    have s := WSs_in h ho i (by omega)
    have p := WSp_in h ho i (by omega)
    have r := ho.2 i (by omega)
    have e1 : wrap64 (WSe l o i + (rd_T36 l (rd o (i : Int))).f0) = WSe l o (i + 1) := wrap_id (by simp only [WSe] at c'; omega) (by simp only [WSe] at c'; omega)
    have e2 : wrap64 (WSs l o i + wrap64 (WSe l o (i + 1) * (rd_T36 l (rd o (i : Int))).f1)) = WSs l o (i + 1) := by
      rw [Int.mul_comm, wrap_id (x := _ * _) (by omega) (by omega), wrap_id (by omega) (by omega)]; rfl
    refine ev_succ ?_
    simp only [spec_WeightedSum.l0]
    refine ev_pos (by omega) (ev_pos (by omega) (ev_pos r.1 (ev_pos r.2 ?_)))
    rw [e1, e2, wrap_succ (by omega)]
    exact ih (i + 1) (by omega)
theorem sWeightedSum_ev (l : List S36) (o : List Int) (hl : l.length ≤ 9223372036854775806) (hl2 : o.length ≤ 9223372036854775806) : Ev (fun k => spec_WeightedSum.f k l o) (WSUM l o) := by
  unfold spec_WeightedSum.f
  have no : ∀ b, b = true → WSUM l o = -1 → Ev (fun k => spec_WeightedSum.j0 k l o b) (WSUM l o) := by
    intro b hb he
    refine ev_succ ?_
    simp only [spec_WeightedSum.j0]
    exact ev_pos hb (ev_some he.symm)
  refine Ev.bind (sTasksOk_ev l hl) ?_
  by_cases h : TOK l
  · refine ev_pos (dec_pos h) (Ev.bind (sEachOnce_ev o _ hl2) ?_)
    by_cases h2 : EACH o (l.length : Int)
    · refine ev_succ ?_
      simp only [spec_WeightedSum.j0]
      rw [WSUM_pos h h2, dec_pos h2]
      exact ev_neg (by simp) (sWeighted_l0 h (inr_each h2) o.length 0 (by omega))
    · exact no _ (by rw [dec_neg h2]; rfl) (WSUM_neg (fun x => h2 x.2))
  · exact ev_neg (by rw [dec_neg h]; simp) (no _ rfl (WSUM_neg (fun x => h x.1)))
theorem iweighted_l0 {l : List S36} {o : List Int} (h : TOK l) (ho : INR l o) : ∀ d i : Nat, i + d = o.length → Ev (fun k => impl_weighted.l0 k l (WSs l o i) (WSe l o i) o (o.length : Int) (i : Int)) (WSs l o o.length) := by
  have hl := ho.1
  intro d
  induction d with
  | zero =>
    intro i hi
    obtain rfl : i = o.length := by omega
    refine ev_succ ?_
    simp only [impl_weighted.l0]
    exact ev_neg (by omega) (Ev.now _)
  | succ d ih =>
    intro i hi
    have c := WSe_in h ho i (by omega)
    have c' := WSe_in h ho (i + 1) (by omega)
    have s := WSs_in h ho i (by omega)
    have p := WSp_in h ho i (by omega)
    have r := ho.2 i (by omega)
    have e1 : wrap64 (WSe l o i + (rd_T36 l (rd o (i : Int))).f0) = WSe l o (i + 1) := wrap_id (by simp only [WSe] at c'; omega) (by simp only [WSe] at c'; omega)
    have e2 : wrap64 (WSs l o i + wrap64 ((rd_T36 l (rd o (i : Int))).f1 * WSe l o (i + 1))) = WSs l o (i + 1) := by
      rw [wrap_id (x := _ * _) (by omega) (by omega), wrap_id (by omega) (by omega)]; rfl
    refine ev_succ ?_
    simp only [impl_weighted.l0]
    refine ev_pos (by omega) (ev_pos (by omega) (ev_pos (by omega) (ev_pos r.1 (ev_pos r.2 ?_))))
    rw [e1, e2, wrap_succ (by omega)]
    exact ih (i + 1) (by omega)
theorem iweighted_ev {l : List S36} {o : List Int} (h : TOK l) (ho : INR l o) : Ev (fun k => impl_weighted.f k l o) (WSs l o o.length) := iweighted_l0 h ho o.length 0 (by omega)
theorem Index_l0 (l : List Int) (x : Int) (hl : l.length ≤ 9223372036854775806) : ∀ (d i : Nat), i + d = l.length → (∀ j : Nat, j < i → rd l (j : Int) ≠ x) →
    ∃ r, Ev (fun k => slices_Index_int_int.l0 k l x (l.length : Int) (i : Int)) r ∧ (0 ≤ r ↔ ∃ j : Nat, j < l.length ∧ rd l (j : Int) = x) := by
  intro d
  induction d with
  | zero =>
    intro i hi hr
    refine ⟨-1, ev_succ ?_, ?_⟩
    · simp only [slices_Index_int_int.l0]
      exact ev_neg (by omega) (Ev.now _)
    · constructor
      · intro h; omega
      · rintro ⟨j, h1, h2⟩; exact absurd h2 (hr j (by omega))
  | succ d ih =>
    intro i hi hr
    by_cases h : x = rd l (i : Int)
    · refine ⟨i, ev_succ ?_, ?_⟩
      · simp only [slices_Index_int_int.l0]
        refine ev_pos (by omega) (ev_pos (by omega) (ev_pos (by omega) (ev_pos h (Ev.now _))))
      · exact ⟨fun _ => ⟨i, by omega, h.symm⟩, fun _ => by omega⟩
    · obtain ⟨r, h1, h2⟩ := ih (i + 1) (by omega) (fun j hj => by
        by_cases e : j = i
        · rw [e]; exact fun e2 => h e2.symm
        · exact hr j (by omega))
      refine ⟨r, ev_succ ?_, h2⟩
      simp only [slices_Index_int_int.l0]
      refine ev_pos (by omega) (ev_pos (by omega) (ev_pos (by omega) (ev_neg h ?_)))
      rw [wrap_succ (by omega)]
      exact h1
theorem Contains_ev (l : List Int) (x : Int) (hl : l.length ≤ 9223372036854775806) : Ev (fun k => slices_Contains_int_int.f k l x) (dec (∃ j : Nat, j < l.length ∧ rd l (j : Int) = x)) := by
  unfold slices_Contains_int_int.f
  obtain ⟨r, h1, h2⟩ := Index_l0 l x hl l.length 0 (by omega) (fun j hj => by omega)
  refine Ev.bind (a := r) ?_ (ev_some ?_)
  · unfold slices_Index_int_int.f; exact h1
  · rw [dec_of]; exact dec_congr h2
theorem inr_ord {l : List S36} (h : TOK l) {o : List Int} (ho : ORD o l.length) (hm : o.length ≤ l.length) : INR l o := ⟨by have := h.2; omega, fun i hi => (ho i hi).1⟩
theorem mnv_pos {v n : Int} (hn : 0 ≤ n) : (if v < 0 ∨ n < v then n else v) = mnv v n := by
  unfold mnv
  rw [if_neg (c := n < 0) (by omega)]
theorem iorders_loop {l : List S36} (h : TOK l) {o : List Int} (ho : ORD o l.length) (hm : o.length < l.length)
    (ih : ∀ i : Nat, i < l.length → (∀ j : Nat, j < o.length → rd o (j : Int) ≠ (i : Int)) → ∃ c, LST l (o ++ [(i : Int)]) c ∧ ∀ v, -1 ≤ v → Ev (fun k => impl_orders.g k l (l.length : Int) (o ++ [(i : Int)]) v) (mnv v c)) :
    ∀ d i : Nat, i + d = l.length → ∃ b, LSF l o i b ∧ ∀ v, -1 ≤ v → Ev (fun k => impl_orders.l0 k l (l.length : Int) o v (i : Int)) (mnv v b) := by
  have hl := h.2
  intro d
  induction d with
  | zero =>
    intro i hi
    obtain rfl : i = l.length := by omega
    refine ⟨-1, LSF.last hm, fun v _ => ev_succ ?_⟩
    simp only [impl_orders.l0]
    refine ev_neg (by omega) (ev_some ?_)
    unfold mnv
    rw [if_pos (by omega)]
  | succ d ihd =>
    intro i hi
    obtain ⟨b, hb, hv⟩ := ihd (i + 1) (by omega)
    have hc := Contains_ev o (i : Int) (by omega)
    by_cases hx : ∃ j : Nat, j < o.length ∧ rd o (j : Int) = (i : Int)
    · refine ⟨b, LSF.pass hm hx hb, fun v h1 => ev_succ ?_⟩
      simp only [impl_orders.l0]
      refine ev_pos (by omega) (Ev.bind hc (ev_pos (dec_pos hx) ?_))
      rw [wrap_succ (by omega)]
      exact hv v h1
    · obtain ⟨c, hc1, hc2⟩ := ih i (by omega) (fun j hj e => hx ⟨j, hj, e⟩)
      have c0 := LST.nn h hc1
      refine ⟨mnv c b, LSF.try_ h hc1 hb, fun v h1 => ev_succ ?_⟩
      simp only [impl_orders.l0]
      refine ev_pos (by omega) (Ev.bind hc (ev_neg (by rw [dec_neg hx]; simp) (ev_pos (by omega) (Ev.bind (hc2 v h1) ?_))))
      rw [wrap_succ (by omega), ← mnv_assoc v c b h1 (by omega) (LSF.ge h hb)]
      exact hv _ (mnv_ge h1 (by omega))
theorem iorders_ev {l : List S36} (h : TOK l) : ∀ (d : Nat) (o : List Int), o.length + d = l.length → ORD o l.length → ∃ b, LST l o b ∧ ∀ v, -1 ≤ v → Ev (fun k => impl_orders.g k l (l.length : Int) o v) (mnv v b) := by
  intro d
  induction d with
  | zero =>
    intro o hd ho
    have hw := LST.whole h ho (by omega)
    refine ⟨_, hw, fun v _ => ev_succ ?_⟩
    simp only [impl_orders.g]
    exact ev_pos (by omega) (Ev.bind (iweighted_ev h (inr_ord h ho (by omega))) (ev_some (mnv_pos (LST.nn h hw))))
  | succ d ih =>
    intro o hd ho
    have ih' : ∀ i : Nat, i < l.length → (∀ j : Nat, j < o.length → rd o (j : Int) ≠ (i : Int)) → ∃ c, LST l (o ++ [(i : Int)]) c ∧ ∀ v, -1 ≤ v → Ev (fun k => impl_orders.g k l (l.length : Int) (o ++ [(i : Int)]) v) (mnv v c) :=
      fun i hi hn => ih (o ++ [(i : Int)]) (by simp; omega) (ord_app ho i hi hn)
    obtain ⟨b, hb, hv⟩ := iorders_loop h ho (by omega) ih' l.length 0 (by omega)
    have hx : ∃ p, EXT l.length o p := by
      obtain ⟨i, hi, hn⟩ := ord_more (o := o) (m := l.length) (by omega)
      obtain ⟨c, ⟨⟨p, hp, _⟩, _⟩, _⟩ := ih' i hi hn
      exact ⟨p, (ext_app.1 hp).1⟩
    refine ⟨b, LSF.all hx (by omega) hb, fun v h1 => ev_succ ?_⟩
    simp only [impl_orders.g]
    exact ev_neg (by omega) (hv v h1)
theorem sBest_there (l : List S36) (o : List Int) (x5 : Int) (i : Nat) (r : Int) (H : Ev (fun k => spec_l7Best.l1 k l o x5 (i : Int) true (o.length : Int)) r) (hl : o.length ≤ 9223372036854775806) :
    ∀ d j : Nat, j + d = o.length → Ev (fun k => spec_l7Best.l1 k l o x5 (i : Int) true (j : Int)) r := by
  intro d
  induction d with
  | zero => intro j hj; obtain rfl : j = o.length := by omega
            exact H
  | succ d ih =>
    intro j hj
    refine ev_succ ?_
    simp only [spec_l7Best.l1]
    refine ev_pos (by omega) (ev_pos (by simp) ?_)
    rw [wrap_succ (by omega)]
    exact ih (j + 1) (by omega)
theorem sBest_look (l : List S36) (o : List Int) (x5 : Int) (i : Nat) (r : Int) (hl : o.length ≤ 9223372036854775806)
    (HT : (∃ j : Nat, j < o.length ∧ rd o (j : Int) = (i : Int)) → Ev (fun k => spec_l7Best.l1 k l o x5 (i : Int) true (o.length : Int)) r)
    (HF : (¬∃ j : Nat, j < o.length ∧ rd o (j : Int) = (i : Int)) → Ev (fun k => spec_l7Best.l1 k l o x5 (i : Int) false (o.length : Int)) r) :
    ∀ d j : Nat, j + d = o.length → (∀ q : Nat, q < j → rd o (q : Int) ≠ (i : Int)) → Ev (fun k => spec_l7Best.l1 k l o x5 (i : Int) false (j : Int)) r := by
  intro d
  induction d with
  | zero =>
    intro j hj hq
    obtain rfl : j = o.length := by omega
    exact HF (fun ⟨q, h1, h2⟩ => hq q h1 h2)
  | succ d ih =>
    intro j hj hq
    refine ev_succ ?_
    simp only [spec_l7Best.l1]
    refine ev_pos (by omega) (ev_neg (by simp) (ev_pos (by omega) ?_))
    rw [wrap_succ (by omega)]
    by_cases e : rd o (j : Int) = (i : Int)
    · rw [show (rd o (j : Int) == (i : Int)) = true from by simp [e]]
      exact sBest_there l o x5 i r (HT ⟨j, by omega, e⟩) hl d (j + 1) (by omega)
    · rw [show (rd o (j : Int) == (i : Int)) = false from by simp [e]]
      refine ih (j + 1) (by omega) (fun q h => ?_)
      by_cases e2 : q = j
      · rw [e2]; exact e
      · exact hq q (by omega)
theorem sBest_loop {l : List S36} (h : TOK l) {o : List Int} (ho : ORD o l.length) (hm : o.length < l.length)
    (ih : ∀ i : Nat, i < l.length → (∀ j : Nat, j < o.length → rd o (j : Int) ≠ (i : Int)) → ∃ c, LST l (o ++ [(i : Int)]) c ∧ Ev (fun k => spec_l7Best.f k l (o ++ [(i : Int)])) c) :
    ∀ d i : Nat, i + d = l.length → ∃ b, LSF l o i b ∧ ∀ v, -1 ≤ v → Ev (fun k => spec_l7Best.l0 k l o v (i : Int)) (mnv v b) := by
  have hl := h.2
  intro d
  induction d with
  | zero =>
    intro i hi
    obtain rfl : i = l.length := by omega
    refine ⟨-1, LSF.last hm, fun v _ => ev_succ ?_⟩
    simp only [spec_l7Best.l0]
    refine ev_neg (by omega) (ev_some ?_)
    unfold mnv
    rw [if_pos (by omega)]
  | succ d ihd =>
    intro i hi
    obtain ⟨b, hb, hv⟩ := ihd (i + 1) (by omega)
    have start : ∀ (v r : Int), ((∃ j : Nat, j < o.length ∧ rd o (j : Int) = (i : Int)) → Ev (fun k => spec_l7Best.l1 k l o v (i : Int) true (o.length : Int)) r) →
        ((¬∃ j : Nat, j < o.length ∧ rd o (j : Int) = (i : Int)) → Ev (fun k => spec_l7Best.l1 k l o v (i : Int) false (o.length : Int)) r) → Ev (fun k => spec_l7Best.l0 k l o v (i : Int)) r := by
      intro v r HT HF
      refine ev_succ ?_
      simp only [spec_l7Best.l0]
      exact ev_pos (by omega) (sBest_look l o v i r (by omega) HT HF o.length 0 (by omega) (fun q hq => by omega))
    by_cases hx : ∃ j : Nat, j < o.length ∧ rd o (j : Int) = (i : Int)
    · refine ⟨b, LSF.pass hm hx hb, fun v h1 => start v _ (fun _ => ?_) (fun hn => absurd hx hn)⟩
      refine ev_succ ?_
      simp only [spec_l7Best.l1]
      refine ev_neg (by omega) (ev_pos (by simp) ?_)
      rw [wrap_succ (by omega)]
      exact hv v h1
    · obtain ⟨c, hc1, hc2⟩ := ih i (by omega) (fun j hj e => hx ⟨j, hj, e⟩)
      have c0 := LST.nn h hc1
      refine ⟨mnv c b, LSF.try_ h hc1 hb, fun v h1 => start v _ (fun hn => absurd hn hx) (fun _ => ?_)⟩
      refine ev_succ ?_
      simp only [spec_l7Best.l1, Option.bind_some, List.nil_append, List.length_nil]
      refine ev_neg (by omega) (ev_neg (by simp) (ev_pos (by omega) (ev_pos (by omega) (Ev.bind hc2 ?_))))
      rw [wrap_succ (by omega), ← mnv_assoc v c b h1 (by omega) (LSF.ge h hb)]
      have hge := mnv_ge h1 (show -1 ≤ c by omega)
      by_cases e : v < 0
      · refine ev_pos e ?_
        rw [show mnv v c = c by unfold mnv; rw [if_neg (by omega), if_pos (.inl e)]]
        exact hv c (by omega)
      · refine ev_neg e ?_
        by_cases e2 : c < v
        · refine ev_pos e2 ?_
          rw [show mnv v c = c by unfold mnv; rw [if_neg (by omega), if_pos (.inr e2)]]
          exact hv c (by omega)
        · refine ev_neg e2 ?_
          rw [show mnv v c = v by unfold mnv; rw [if_neg (by omega), if_neg (by omega)]]
          exact hv v h1
theorem sBest_ev {l : List S36} (h : TOK l) : ∀ (d : Nat) (o : List Int), o.length + d = l.length → ORD o l.length → ∃ b, LST l o b ∧ Ev (fun k => spec_l7Best.f k l o) b := by
  have hl := h.2
  intro d
  induction d with
  | zero =>
    intro o hd ho
    have hw := LST.whole h ho (by omega)
    refine ⟨_, hw, ev_succ ?_⟩
    simp only [spec_l7Best.f]
    obtain ⟨he, _⟩ := ext_whole ho (by omega) (by omega) (by omega)
    exact ev_pos (by omega) (Ev.bind (sWeightedSum_ev l o (by omega) (by omega)) (ev_some (WSUM_pos h he)))
  | succ d ih =>
    intro o hd ho
    have ih' : ∀ i : Nat, i < l.length → (∀ j : Nat, j < o.length → rd o (j : Int) ≠ (i : Int)) → ∃ c, LST l (o ++ [(i : Int)]) c ∧ Ev (fun k => spec_l7Best.f k l (o ++ [(i : Int)])) c :=
      fun i hi hn => ih (o ++ [(i : Int)]) (by simp; omega) (ord_app ho i hi hn)
    obtain ⟨b, hb, hv⟩ := sBest_loop h ho (by omega) ih' l.length 0 (by omega)
    have hx : ∃ p, EXT l.length o p := by
      obtain ⟨i, hi, hn⟩ := ord_more (o := o) (m := l.length) (by omega)
      obtain ⟨c, ⟨⟨p, hp, _⟩, _⟩, _⟩ := ih' i hi hn
      exact ⟨p, (ext_app.1 hp).1⟩
    have ha := LSF.all hx (by omega) hb
    have b0 := LST.nn h ha
    refine ⟨b, ha, ev_succ ?_⟩
    simp only [spec_l7Best.f]
    refine ev_neg (by omega) (ev_to (hv (-1) (by omega)) ?_)
    unfold mnv
    rw [if_neg (by omega), if_pos (.inl (by omega))]
theorem sLeastWeighted_ev (l : List S36) (hl : l.length ≤ 9223372036854775806) : Ev (fun k => spec_LeastWeighted.f k l) (LWV l) := by
  unfold spec_LeastWeighted.f
  refine Ev.bind (sTasksOk_ev l hl) ?_
  by_cases h : TOK l
  · refine ev_pos (dec_pos h) ?_
    obtain ⟨b, hb, hv⟩ := sBest_ev h l.length [] (by simp) (fun i hi => by simp at hi)
    exact Ev.bind hv (ev_some (LST.one hb (LWV_pos h)))
  · exact ev_neg (by rw [dec_neg h]; simp) (ev_some (LWV_neg h).symm)
theorem iTasksOk_l0 (l : List S36) (hl : l.length ≤ 9223372036854775806) : ∀ d i : Nat, i + d = l.length →
    Ev (fun k => impl_TasksOk.l0 k l l (l.length : Int) (i : Int)) (dec ((∀ j : Nat, i ≤ j → j < l.length → TIn (rd_T36 l (j : Int))) ∧ 1 ≤ (l.length : Int) ∧ (l.length : Int) ≤ 6)) := by
  intro d
  induction d with
  | zero =>
    intro i hi
    refine ev_succ ?_
    simp only [impl_TasksOk.l0]
    refine ev_neg (by omega) ?_
    obtain rfl : i = l.length := by omega
    by_cases h : (l.length : Int) ≥ 1
    · refine ev_pos h (ev_some ?_)
      rw [dec_of]
      exact dec_congr ⟨fun e => ⟨from_end, h, e⟩, fun e => e.2.2⟩
    · exact ev_neg h (ev_some (dec_neg (fun e => h e.2.1)).symm)
  | succ d ih =>
    intro i hi
    refine ev_succ ?_
    simp only [impl_TasksOk.l0]
    have hs := from_step (i := i) (n := l.length) (Q := fun j => TIn (rd_T36 l (j : Int))) (by omega)
    refine ev_pos (by omega) (ev_pos (by omega) (ev_pos (by omega) ?_))
    by_cases h1 : (rd_T36 l (i : Int)).f0 < 1
    · exact ev_pos h1 (ev_some (dec_neg (fun x => by have := (hs.1 x.1).1.1.1; omega)).symm)
    refine ev_neg h1 ?_
    by_cases h2 : (rd_T36 l (i : Int)).f0 > 9
    · exact ev_pos h2 (ev_some (dec_neg (fun x => by have := (hs.1 x.1).1.1.2; omega)).symm)
    refine ev_neg h2 ?_
    by_cases h3 : (rd_T36 l (i : Int)).f1 < 0
    · exact ev_pos h3 (ev_some (dec_neg (fun x => by have := (hs.1 x.1).1.2.1; omega)).symm)
    refine ev_neg h3 ?_
    by_cases h4 : (rd_T36 l (i : Int)).f1 > 9
    · exact ev_pos h4 (ev_some (dec_neg (fun x => by have := (hs.1 x.1).1.2.2; omega)).symm)
    refine ev_neg h4 ?_
    rw [wrap_succ (by omega)]
    refine ev_to (ih (i + 1) (by omega)) (dec_congr ?_)
    rw [hs]
    exact ⟨fun x => ⟨⟨⟨⟨by omega, by omega⟩, by omega, by omega⟩, x.1⟩, x.2⟩, fun x => ⟨x.1.2, x.2⟩⟩
theorem iTasksOk_ev (l : List S36) (hl : l.length ≤ 9223372036854775806) : Ev (fun k => impl_TasksOk.f k l) (dec (TOK l)) := iTasksOk_l0 l hl l.length 0 (by omega)
theorem iLeastWeighted_ev (l : List S36) (hl : l.length ≤ 9223372036854775806) : Ev (fun k => impl_LeastWeighted.f k l) (LWV l) := by
  unfold impl_LeastWeighted.f
  refine Ev.bind (iTasksOk_ev l hl) ?_
  by_cases h : TOK l
  · refine ev_pos (dec_pos h) ?_
    obtain ⟨b, hb, hv⟩ := iorders_ev h l.length [] (by simp) (fun i hi => by simp at hi)
    have e : mnv (-1) b = LWV l := by
      rw [LST.one (LWV_pos h) hb]
      have := LST.nn h hb
      unfold mnv
      rw [if_neg (by omega), if_pos (.inl (by omega))]
    exact ev_to (hv (-1) (by omega)) e
  · exact ev_neg (by rw [dec_neg h]; simp) (ev_some (LWV_neg h).symm)
def cvTask (x : S53) : S36 := ⟨x.f0, x.f1⟩
theorem toTaskS_l0 (l : List S53) (hl : l.length ≤ 1048576) : ∀ (d i : Nat) (o : List S36), i + d = l.length → o.length = l.length → (∀ j : Nat, j < i → rd_T36 o (j : Int) = cvTask (rd_T53 l (j : Int))) →
    Ev (fun k => laws_toTaskS.l0 k l o (i : Int)) (l.map cvTask) := by
  intro d
  induction d with
  | zero =>
    intro i o hi ho hr
    refine ev_succ ?_
    simp only [laws_toTaskS.l0]
    refine ev_neg (by omega) (ev_some ?_)
    refine sTask_ext (by rw [List.length_map]; exact ho) (fun j hj => ?_)
    rw [hr j (by omega), sTask_nat, List.getD_eq_getElem?_getD, List.getElem?_map, List.getElem?_eq_getElem (by omega)]
    show cvTask (l.getD j _) = cvTask _
    rw [List.getD_eq_getElem?_getD, List.getElem?_eq_getElem (by omega)]; rfl
  | succ d ih =>
    intro i o hi ho hr
    refine ev_succ ?_
    simp only [laws_toTaskS.l0, laws_toTask.f, Option.bind_some]
    refine ev_pos (by omega) (ev_pos (by omega) (ev_pos (by omega) ?_))
    rw [wrap_succ (by omega)]
    refine ih (i + 1) _ (by omega) (by rw [List.length_set]; exact ho) ?_
    intro j hj
    rw [show ((i : Int).toNat) = i from rfl, sTask_set o i j _ (by omega)]
    by_cases e : j = i
    · rw [if_pos e, e]; rfl
    · rw [if_neg e]; exact hr j (by omega)
theorem toTaskS_ev (l : List S53) (hl : l.length ≤ 1048576) : Ev (fun k => laws_toTaskS.f k l) (l.map cvTask) := by
  unfold laws_toTaskS.f
  refine ev_pos (by omega) (ev_pos (by omega) ?_)
  refine toTaskS_l0 l hl l.length 0 _ (by omega) (by simp) (fun j hj => by omega)
theorem szTaskS_eq (l : List S53) (hl : l.length ≤ 1048576) : laws_szTaskS.f l 1048576 = some (1048576 - (l.length : Int)) := by
  unfold laws_szTaskS.f
  rw [wrap_id (by omega) (by omega), if_neg (by omega)]
theorem szTaskS_big (l : List S53) (h0 : l.length ≤ 9223372036854775807) (hl : ¬ l.length ≤ 1048576) : laws_szTaskS.f l 1048576 = some (-1) := by
  unfold laws_szTaskS.f
  rw [wrap_id (by omega) (by omega), if_pos (by omega)]
theorem eqTaskS_l0 (a b : List S36) (hl : a.length ≤ 9223372036854775806) (hb : a.length = b.length) : ∀ (d i : Nat), i + d = a.length → (∀ j : Nat, j < i → rd_T36 a (j : Int) = rd_T36 b (j : Int)) →
    Ev (fun k => laws_eqTaskS.l0 k a b (i : Int)) (dec (a = b)) := by
  intro d
  induction d with
  | zero =>
    intro i hi hr
    refine ev_succ ?_
    simp only [laws_eqTaskS.l0]
    refine ev_neg (by omega) (ev_some ?_)
    exact (dec_pos (sTask_ext hb (fun j hj => hr j (by omega)))).symm
  | succ d ih =>
    intro i hi hr
    refine ev_succ ?_
    simp only [laws_eqTaskS.l0, laws_eqTask.f]
    refine ev_pos (by omega) (ev_pos (by omega) (ev_pos (by omega) ?_))
    by_cases h : (rd_T36 a (i : Int)).f0 = (rd_T36 b (i : Int)).f0
    · by_cases h2 : (rd_T36 a (i : Int)).f1 = (rd_T36 b (i : Int)).f1
      · rw [if_pos h, if_pos h2]
        simp only [Option.bind_some]
        refine ev_pos (by simp) ?_
        rw [wrap_succ (by omega)]
        refine ih (i + 1) (by omega) ?_
        intro j hj
        by_cases e : j = i
        · rw [e]
          cases ha : rd_T36 a (i : Int); cases hb' : rd_T36 b (i : Int)
          rw [ha, hb'] at h h2
          simp only at h h2
          rw [h, h2]
        · exact hr j (by omega)
      · rw [if_pos h, if_neg h2]
        simp only [Option.bind_some]
        refine ev_neg (by simp) (ev_some (dec_neg ?_).symm)
        intro e; exact h2 (by rw [e])
    · rw [if_neg h]
      simp only [Option.bind_some]
      refine ev_neg (by simp) (ev_some (dec_neg ?_).symm)
      intro e; exact h (by rw [e])
theorem eqTaskS_ev (a b : List S36) (hl : a.length ≤ 9223372036854775806) : Ev (fun k => laws_eqTaskS.f k a b) (dec (a = b)) := by
  unfold laws_eqTaskS.f
  by_cases h : a.length = b.length
  · refine ev_pos (by omega) ?_
    exact eqTaskS_l0 a b hl h a.length 0 (by omega) (fun j hj => by omega)
  · refine ev_neg (by omega) (ev_some (dec_neg ?_).symm)
    intro e; exact h (by rw [e])
theorem FnExactLeastWeighted (l0 : List S53) (h0 : l0.length ≤ 9223372036854775807) : ∃ k, laws_FnExactLeastWeighted.f k l0 = some true := by
  refine Ev.rounds ?_
  unfold laws_FnExactLeastWeighted.f
  by_cases h : l0.length ≤ 1048576
  · have e : (l0.map cvTask).length ≤ 9223372036854775806 := by rw [List.length_map]; omega
    rw [szTaskS_eq l0 h]
    refine Ev.bind (Ev.now _) (ev_neg (by omega) (Ev.bind (toTaskS_ev l0 h) (Ev.bind (sLeastWeighted_ev _ e) (Ev.bind (toTaskS_ev l0 h) (Ev.bind (iLeastWeighted_ev _ e) ?_)))))
    exact ev_pos rfl (Ev.bind (toTaskS_ev l0 h) (Ev.bind (eqTaskS_ev _ _ e) (ev_pos (dec_pos rfl) (Ev.now _))))
  · rw [szTaskS_big l0 h0 h]
    exact Ev.bind (Ev.now _) (ev_pos (by omega) (Ev.now _))
end Go.Proofs.Ytclodndgieefcaa.Pure
