/- The law FnWeightedSum holds for every input; nothing is assumed. -/
import Derived.Test.YtclodndgieefcaaQFnWeightedSumx6
namespace Go.Proofs.Ytclodndgieefcaa.Pure
open Go.RowKit Go.Proofs.Ytclodndgieefcaa.PFnWeightedSum Go.Proofs.YtclodndgieefcaaW.PrintWords Go.Proofs.YtclodndgieefcaaW.PrintLast Go.Proofs.YtclodndgieefcaaW.PrintMore
set_option linter.unusedVariables false
set_option linter.unusedSimpArgs false
theorem ev_succ {α : Type} {g : Nat → Option α} {r : α} (h : Ev (fun k => g (k + 1)) r) : Ev g r := Ev.step (fun _ => rfl) h
theorem ev_pos {α : Type} {c : Prop} [Decidable c] {f g : Nat → Option α} {r : α} (h : c) (k : Ev f r) : Ev (fun n => if c then f n else g n) r := Ev.congr (fun _ => if_pos h) k
theorem ev_neg {α : Type} {c : Prop} [Decidable c] {f g : Nat → Option α} {r : α} (h : ¬c) (k : Ev g r) : Ev (fun n => if c then f n else g n) r := Ev.congr (fun _ => if_neg h) k
theorem ev_some {α : Type} {x r : α} (h : x = r) : Ev (fun _ => some x) r := h ▸ Ev.now x
theorem ev_to {α : Type} {g : Nat → Option α} {a r : α} (h : Ev g a) (e : a = r) : Ev g r := e ▸ h
/-- Whether P. -/
noncomputable def dec (P : Prop) : Bool := @decide P (Classical.propDecidable P)
theorem dec_iff {P : Prop} : dec P = true ↔ P := @decide_eq_true_iff P (Classical.propDecidable P)
theorem dec_pos {P : Prop} (h : P) : dec P = true := dec_iff.2 h
theorem dec_neg {P : Prop} (h : ¬P) : dec P = false := by
  cases e : dec P
  · rfl
  · exact absurd (dec_iff.1 e) h
theorem dec_congr {P Q : Prop} (h : P ↔ Q) : dec P = dec Q := by rw [propext h]
theorem dec_of {P : Prop} [Decidable P] : decide P = dec P := by
  by_cases h : P
  · rw [dec_pos h, decide_eq_true h]
  · rw [dec_neg h, decide_eq_false h]
theorem dec_bool {b : Bool} : b = dec (b = true) := by
  cases b
  · exact (dec_neg (by simp)).symm
  · exact (dec_pos rfl).symm
/-- From i on: at i, and from i + 1 on. -/
theorem from_step {i n : Nat} {Q : Nat → Prop} (h : i < n) : (∀ j, i ≤ j → j < n → Q j) ↔ Q i ∧ ∀ j, i + 1 ≤ j → j < n → Q j := by
  constructor
  · exact fun a => ⟨a i (Nat.le_refl _) h, fun j h1 h2 => a j (by omega) h2⟩
  · intro a j h1 h2
    by_cases e : j = i
    · exact e ▸ a.1
    · exact a.2 j (by omega) h2
theorem from_end {n : Nat} {Q : Nat → Prop} : ∀ j, n ≤ j → j < n → Q j := fun j h1 h2 => by omega
theorem wrap_id {x : Int} (h0 : -9223372036854775808 ≤ x) (h1 : x ≤ 9223372036854775807) : wrap64 x = x := by unfold wrap64; omega
theorem wrap_succ {i : Nat} (h : i ≤ 9223372036854775806) : wrap64 ((i : Int) + 1) = ((i + 1 : Nat) : Int) := by unfold wrap64; omega
theorem wrap_pred {i : Nat} (h : i ≤ 9223372036854775806) : wrap64 ((i : Int) - 1) = (i : Int) - 1 := by unfold wrap64; omega
/-- The bounds of a number of the kind int. -/
def I64 (x : Int) : Prop := -9223372036854775808 ≤ x ∧ x ≤ 9223372036854775807
theorem i64_wf {x : Int} (h : (Lit.int .i64 x).wf = true) : I64 x := by
  have h' : (decide (IntKind.i64.min ≤ x) && decide (x ≤ IntKind.i64.max)) = true := h
  have a : IntKind.i64.min = -9223372036854775808 := by decide
  have b : IntKind.i64.max = 9223372036854775807 := by decide
  rw [a, b] at h'
  simpa [I64] using h'
theorem sTask_nat (l : List S36) (i : Nat) : rd_T36 l (i : Int) = l.getD i z36 := rfl
theorem sTask_get {l : List S36} {i : Nat} (h : i < l.length) : rd_T36 l (i : Int) = l[i] := by
  rw [sTask_nat, List.getD_eq_getElem?_getD, List.getElem?_eq_getElem h]; rfl
theorem sTask_set (l : List S36) (i j : Nat) (v : S36) (h : i < l.length) : rd_T36 (l.set i v) (j : Int) = if j = i then v else rd_T36 l (j : Int) := by
  rw [sTask_nat, sTask_nat, List.getD_eq_getElem?_getD, List.getElem?_set]
  by_cases e : i = j
  · subst e; rw [if_pos rfl, if_pos h, if_pos rfl]; rfl
  · rw [if_neg e, if_neg (fun x => e x.symm), ← List.getD_eq_getElem?_getD]
theorem sTask_app (l : List S36) (v : S36) (j : Nat) : rd_T36 (l ++ [v]) (j : Int) = if j < l.length then rd_T36 l (j : Int) else if j = l.length then v else z36 := by
  rw [sTask_nat, sTask_nat, List.getD_eq_getElem?_getD, List.getD_eq_getElem?_getD, List.getElem?_append]
  by_cases h : j < l.length
  · rw [if_pos h, if_pos h]
  · rw [if_neg h, if_neg h]
    by_cases e : j = l.length
    · subst e; rw [if_pos rfl]; simp
    · rw [if_neg e, List.getElem?_eq_none (by simp; omega)]; rfl
theorem sTask_take (l : List S36) (n j : Nat) (h : j < n) : rd_T36 (l.take n) (j : Int) = rd_T36 l (j : Int) := by
  rw [sTask_nat, sTask_nat, List.getD_eq_getElem?_getD, List.getElem?_take, if_pos h, ← List.getD_eq_getElem?_getD]
theorem sTask_drop (l : List S36) (n j : Nat) : rd_T36 (l.drop n) (j : Int) = rd_T36 l ((n + j : Nat) : Int) := by
  rw [sTask_nat, sTask_nat, List.getD_eq_getElem?_getD, List.getElem?_drop, ← List.getD_eq_getElem?_getD]
theorem sTask_ext {a b : List S36} (hl : a.length = b.length) (h : ∀ j : Nat, j < a.length → rd_T36 a (j : Int) = rd_T36 b (j : Int)) : a = b := by
  refine List.ext_getElem hl fun j h1 h2 => ?_
  have := h j h1
  rw [sTask_get h1, sTask_get h2] at this
  exact this
def TIn (x : S36) : Prop := (1 ≤ x.f0 ∧ x.f0 ≤ 9) ∧ 0 ≤ x.f1 ∧ x.f1 ≤ 9
/-- Tasks. -/
def TOK (l : List S36) : Prop := (∀ j : Nat, 0 ≤ j → j < l.length → TIn (rd_T36 l (j : Int))) ∧ 1 ≤ (l.length : Int) ∧ (l.length : Int) ≤ 6
theorem rd_nat (l : List Int) (i : Nat) : rd l (i : Int) = l.getD i 0 := rfl
theorem rd_set (l : List Int) (i j : Nat) (v : Int) (h : i < l.length) : rd (l.set i v) (j : Int) = if j = i then v else rd l (j : Int) := by
  rw [rd_nat, rd_nat, List.getD_eq_getElem?_getD, List.getElem?_set]
  by_cases e : i = j
  · subst e; rw [if_pos rfl, if_pos h, if_pos rfl]; rfl
  · rw [if_neg e, if_neg (fun x => e x.symm), ← List.getD_eq_getElem?_getD]
theorem rd_app (l : List Int) (v : Int) (j : Nat) : rd (l ++ [v]) (j : Int) = if j < l.length then rd l (j : Int) else if j = l.length then v else 0 := by
  rw [rd_nat, rd_nat, List.getD_eq_getElem?_getD, List.getD_eq_getElem?_getD, List.getElem?_append]
  by_cases h : j < l.length
  · rw [if_pos h, if_pos h]
  · rw [if_neg h, if_neg h]
    by_cases e : j = l.length
    · subst e; rw [if_pos rfl]; simp
    · rw [if_neg e, List.getElem?_eq_none (by simp; omega)]; rfl
theorem rd_take (l : List Int) (n j : Nat) (h : j < n) : rd (l.take n) (j : Int) = rd l (j : Int) := by
  rw [rd_nat, rd_nat, List.getD_eq_getElem?_getD, List.getElem?_take, if_pos h, ← List.getD_eq_getElem?_getD]
theorem rd_ext {a b : List Int} (hl : a.length = b.length) (h : ∀ j : Nat, j < a.length → rd a (j : Int) = rd b (j : Int)) : a = b := by
  refine List.ext_getElem hl fun j h1 h2 => ?_
  have := h j h1
  rw [rd_nat, rd_nat, List.getD_eq_getElem?_getD, List.getD_eq_getElem?_getD, List.getElem?_eq_getElem h1, List.getElem?_eq_getElem h2] at this
  exact this
theorem rd_out (l : List Int) (j : Nat) (h : l.length ≤ j) : rd l (j : Int) = 0 := by
  rw [rd_nat, List.getD_eq_getElem?_getD, List.getElem?_eq_none h]; rfl
theorem rd_mem {l : List Int} {j : Nat} (h : j < l.length) : rd l (j : Int) ∈ l := by
  rw [rd_nat, List.getD_eq_getElem?_getD, List.getElem?_eq_getElem h]; exact List.getElem_mem h
theorem rd_repl (n j : Nat) : rd (List.replicate n (0 : Int)) (j : Int) = 0 := by
  rw [rd_nat, List.getD_eq_getElem?_getD, List.getElem?_replicate]; split <;> rfl
/-- A row has each number from 0 up to m less 1 just once, 1 to 6 of them. -/
def EACH (l : List Int) (m : Int) : Prop := (∀ i : Nat, i < l.length → (0 ≤ rd l (i : Int) ∧ rd l (i : Int) < m) ∧ ∀ j : Nat, j < i → rd l (j : Int) ≠ rd l (i : Int)) ∧ (1 ≤ m ∧ m ≤ 6) ∧ (l.length : Int) = m
/-- When the first i tasks of the order have ended. -/
def WSe (l : List S36) (o : List Int) : Nat → Int
  | 0 => 0
  | i + 1 => WSe l o i + (rd_T36 l (rd o (i : Int))).f0
/-- The weights times the ends of the first i tasks of the order, added. -/
def WSs (l : List S36) (o : List Int) : Nat → Int
  | 0 => 0
  | i + 1 => WSs l o i + (rd_T36 l (rd o (i : Int))).f1 * WSe l o (i + 1)
theorem mul_in {a b A B : Int} (a0 : 0 ≤ a) (a1 : a ≤ A) (b0 : 0 ≤ b) (b1 : b ≤ B) : 0 ≤ a * b ∧ a * b ≤ A * B :=
  ⟨Int.mul_nonneg a0 b0, Int.mul_le_mul a1 b1 b0 (Int.le_trans a0 a1)⟩
/-- An order's places are places of the tasks. -/
def INR (l : List S36) (o : List Int) : Prop := o.length ≤ 6 ∧ ∀ i : Nat, i < o.length → 0 ≤ rd o (i : Int) ∧ rd o (i : Int) < (l.length : Int)
theorem tin_of {l : List S36} (h : TOK l) (x : Int) (h0 : 0 ≤ x) (h1 : x < (l.length : Int)) : TIn (rd_T36 l x) := by
  obtain ⟨m, rfl⟩ := Int.eq_ofNat_of_zero_le h0
  exact h.1 m (Nat.zero_le _) (by omega)
theorem WSe_in {l : List S36} {o : List Int} (h : TOK l) (ho : INR l o) : ∀ i : Nat, i ≤ o.length → 0 ≤ WSe l o i ∧ WSe l o i ≤ 9 * (i : Int)
  | 0, _ => ⟨Int.le_refl _, by simp [WSe]⟩
  | i + 1, hi => by
    have a := WSe_in h ho i (by omega)
    have b := tin_of h _ (ho.2 i (by omega)).1 (ho.2 i (by omega)).2
    have c := b.1
    simp only [WSe]
    omega
theorem WSp_in {l : List S36} {o : List Int} (h : TOK l) (ho : INR l o) (i : Nat) (hi : i < o.length) : 0 ≤ (rd_T36 l (rd o (i : Int))).f1 * WSe l o (i + 1) ∧ (rd_T36 l (rd o (i : Int))).f1 * WSe l o (i + 1) ≤ 9 * 54 := by
  have b := (tin_of h _ (ho.2 i (by omega)).1 (ho.2 i (by omega)).2).2
  have c := WSe_in h ho (i + 1) (by omega)
  have hl := ho.1
  exact mul_in b.1 b.2 c.1 (by omega)
theorem WSs_in {l : List S36} {o : List Int} (h : TOK l) (ho : INR l o) : ∀ i : Nat, i ≤ o.length → 0 ≤ WSs l o i ∧ WSs l o i ≤ 486 * (i : Int)
  | 0, _ => ⟨Int.le_refl _, by simp [WSs]⟩
  | i + 1, hi => by
    have a := WSs_in h ho i (by omega)
    have b := WSp_in h ho i (by omega)
    simp only [WSs]
    omega
theorem inr_each {l : List S36} {o : List Int} (he : EACH o (l.length : Int)) : INR l o := by
  have := he.2
  exact ⟨by omega, fun i hi => (he.1 i hi).1⟩
/-- Neighbours exchanged. -/
def sw (l : List Int) (a : Nat) : List Int := (l.set a (rd l ((a + 1 : Nat) : Int))).set (a + 1) (rd l (a : Int))
theorem sw_len (l : List Int) (a : Nat) : (sw l a).length = l.length := by simp [sw]
theorem rd_sw {l : List Int} {a : Nat} (h : a + 1 < l.length) (j : Nat) : rd (sw l a) (j : Int) = if j = a + 1 then rd l (a : Int) else if j = a then rd l ((a + 1 : Nat) : Int) else rd l (j : Int) := by
  unfold sw
  rw [rd_set _ _ _ _ (by rw [List.length_set]; omega), rd_set _ _ _ _ (by omega)]
def SWOK (l : List Int) (a : Int) : Prop := EACH l (l.length : Int) ∧ 0 ≤ a ∧ a ≤ (l.length : Int) - 2
noncomputable def SWV (l : List Int) (a : Int) : List Int × Bool := if dec (SWOK l a) = true then (sw l a.toNat, true) else ([], false)
theorem SWV_pos {l : List Int} {a : Int} (h : SWOK l a) : SWV l a = (sw l a.toNat, true) := by unfold SWV; rw [if_pos (dec_pos h)]
theorem SWV_neg {l : List Int} {a : Int} (h : ¬SWOK l a) : SWV l a = ([], false) := by unfold SWV; rw [if_neg (by rw [dec_neg h]; simp)]
theorem SWV_len (l : List Int) (a : Int) : (SWV l a).1.length ≤ l.length := by
  by_cases h : SWOK l a
  · rw [SWV_pos h]; simp only [sw_len]; omega
  · rw [SWV_neg h]; simp
theorem each_sw_lt {l : List Int} {m : Int} {a : Nat} (h : EACH l m) (ha : a + 1 < l.length) : EACH (sw l a) m := by
  have hn : ∀ x y : Nat, x < l.length → y < l.length → x ≠ y → rd l (x : Int) ≠ rd l (y : Int) := by
    intro x y hx hy e
    rcases Nat.lt_or_gt_of_ne e with c | c
    · exact (h.1 y hy).2 x c
    · exact fun e2 => (h.1 x hx).2 y c e2.symm
  refine ⟨fun i hi => ?_, h.2.1, by rw [sw_len]; exact h.2.2⟩
  rw [sw_len] at hi
  refine ⟨?_, fun j hj => ?_⟩
  · rw [rd_sw ha]
    split
    · exact (h.1 _ (by omega)).1
    · split
      · exact (h.1 _ ha).1
      · exact (h.1 _ hi).1
  · rw [rd_sw ha, rd_sw ha]
    split <;> split <;> (try split) <;> (try split) <;> (try omega) <;> first | exact hn _ _ (by omega) (by omega) (by omega) | skip
theorem sw_sw {l : List Int} {a : Nat} (ha : a + 1 < l.length) : sw (sw l a) a = l := by
  refine rd_ext (by rw [sw_len, sw_len]) (fun j hj => ?_)
  rw [rd_sw (by rw [sw_len]; exact ha), rd_sw ha, rd_sw ha, rd_sw ha]
  split
  · rename_i e; rw [if_neg (by omega), if_pos rfl, e]
  · split
    · rename_i e; rw [if_pos rfl, e]
    · rfl
theorem WSs_sw_lo (l : List S36) {o : List Int} {a : Nat} (ha : a + 1 < o.length) : ∀ i : Nat, i ≤ a → WSe l (sw o a) i = WSe l o i ∧ WSs l (sw o a) i = WSs l o i
  | 0, _ => ⟨rfl, rfl⟩
  | i + 1, hi => by
    obtain ⟨e1, e2⟩ := WSs_sw_lo l ha i (by omega)
    have e : rd (sw o a) (i : Int) = rd o (i : Int) := by rw [rd_sw ha, if_neg (by omega), if_neg (by omega)]
    simp only [WSs, WSe]
    rw [e, e1, e2]
    exact ⟨rfl, rfl⟩
theorem WSs_sw_hi (l : List S36) {o : List Int} {a : Nat} (ha : a + 1 < o.length) : ∀ d : Nat, WSe l (sw o a) (a + 2 + d) = WSe l o (a + 2 + d) ∧
    WSs l (sw o a) (a + 2 + d) = WSs l o (a + 2 + d) + (rd_T36 l (rd o (a : Int))).f1 * (rd_T36 l (rd o ((a + 1 : Nat) : Int))).f0 - (rd_T36 l (rd o ((a + 1 : Nat) : Int))).f1 * (rd_T36 l (rd o (a : Int))).f0
  | 0 => by
    obtain ⟨e1, e2⟩ := WSs_sw_lo l ha a (Nat.le_refl _)
    have e3 : rd (sw o a) (a : Int) = rd o ((a + 1 : Nat) : Int) := by rw [rd_sw ha, if_neg (by omega), if_pos rfl]
    have e4 : rd (sw o a) ((a + 1 : Nat) : Int) = rd o (a : Int) := by rw [rd_sw ha, if_pos rfl]
    simp only [Nat.add_zero, WSs, WSe]
    rw [e3, e4, e1, e2]
    simp only [Int.mul_add]
    constructor <;> omega
  | d + 1 => by
    obtain ⟨e1, e2⟩ := WSs_sw_hi l ha d
    have e : rd (sw o a) ((a + 2 + d : Nat) : Int) = rd o ((a + 2 + d : Nat) : Int) := by rw [rd_sw ha, if_neg (by omega), if_neg (by omega)]
    rw [show a + 2 + (d + 1) = (a + 2 + d) + 1 by omega]
    simp only [WSs, WSe]
    rw [e, e1, e2]
    constructor <;> omega
theorem WSs_sw (l : List S36) {o : List Int} {a : Nat} (ha : a + 1 < o.length) : WSs l (sw o a) (sw o a).length = WSs l o o.length + (rd_T36 l (rd o (a : Int))).f1 * (rd_T36 l (rd o ((a + 1 : Nat) : Int))).f0 - (rd_T36 l (rd o ((a + 1 : Nat) : Int))).f1 * (rd_T36 l (rd o (a : Int))).f0 := by
  have h := (WSs_sw_hi l ha (o.length - (a + 2))).2
  rw [show a + 2 + (o.length - (a + 2)) = o.length by omega] at h
  rw [sw_len]
  exact h
theorem no_inj (n : Nat) : ∀ (m : Nat) (f : Nat → Int), n < m → (∀ i, i < m → 0 ≤ f i ∧ f i < (n : Int)) → (∀ i, i < m → ∀ j, j < i → f j ≠ f i) → False := by
  induction n with
  | zero => intro m f h h1 _; have := h1 0 h; omega
  | succ n ih =>
    intro m f h h1 h2
    obtain ⟨m, rfl⟩ : ∃ q, m = q + 1 := ⟨m - 1, by omega⟩
    have hv := h1 m (by omega)
    refine ih m (fun i => if f i > f m then f i - 1 else f i) (by omega) (fun i hi => ?_) (fun i hi j hj => ?_)
    · have a := h1 i (by omega)
      have b := h2 m (by omega) i hi
      show 0 ≤ (if f i > f m then f i - 1 else f i) ∧ (if f i > f m then f i - 1 else f i) < (n : Int)
      split <;> omega
    · have a := h2 i (by omega) j hj
      have b := h2 m (by omega) i hi
      have c := h2 m (by omega) j (by omega)
      show (if f j > f m then f j - 1 else f j) ≠ (if f i > f m then f i - 1 else f i)
      split <;> split <;> omega
theorem inj_onto (n : Nat) (f : Nat → Int) (h1 : ∀ i, i < n → 0 ≤ f i ∧ f i < (n : Int)) (h2 : ∀ i, i < n → ∀ j, j < i → f j ≠ f i) (k : Int) (h0 : 0 ≤ k) (hk : k < (n : Int)) : ∃ j, j < n ∧ f j = k := by
  apply Classical.byContradiction
  intro hc
  have hne : ∀ j, j < n → f j ≠ k := fun j hj e => hc ⟨j, hj, e⟩
  refine no_inj (n - 1) n (fun i => if f i > k then f i - 1 else f i) (by omega) (fun i hi => ?_) (fun i hi j hj => ?_)
  · have a := h1 i hi
    have b := hne i hi
    show 0 ≤ (if f i > k then f i - 1 else f i) ∧ (if f i > k then f i - 1 else f i) < ((n - 1 : Nat) : Int)
    split <;> omega
  · have a := h2 i hi j hj
    have b := hne i hi
    have c := hne j (by omega)
    show (if f j > k then f j - 1 else f j) ≠ (if f i > k then f i - 1 else f i)
    split <;> split <;> omega
/-- The beginning of an order. -/
def ORD (o : List Int) (m : Nat) : Prop := ∀ i : Nat, i < o.length → (0 ≤ rd o (i : Int) ∧ rd o (i : Int) < (m : Int)) ∧ ∀ j : Nat, j < i → rd o (j : Int) ≠ rd o (i : Int)
/-- A whole order that goes on o. -/
def EXT (m : Nat) (o p : List Int) : Prop := EACH p (m : Int) ∧ ∀ j : Nat, j < o.length → rd p (j : Int) = rd o (j : Int)
theorem ord_app {o : List Int} {m : Nat} (h : ORD o m) (i : Nat) (hi : i < m) (hn : ∀ j : Nat, j < o.length → rd o (j : Int) ≠ (i : Int)) : ORD (o ++ [(i : Int)]) m := by
  intro q hq
  simp only [List.length_append, List.length_singleton] at hq
  rw [rd_app]
  by_cases e : q < o.length
  · rw [if_pos e]
    refine ⟨(h q e).1, fun j hj => ?_⟩
    rw [rd_app, if_pos (by omega)]
    exact (h q e).2 j hj
  · rw [if_neg e, if_pos (by omega)]
    refine ⟨by omega, fun j hj => ?_⟩
    rw [rd_app, if_pos (by omega)]
    exact hn j (by omega)
/-- Some number is not there yet. -/
theorem ord_more {o : List Int} {m : Nat} (hm : o.length < m) : ∃ i : Nat, i < m ∧ ∀ j : Nat, j < o.length → rd o (j : Int) ≠ (i : Int) := by
  apply Classical.byContradiction
  intro hc
  have hall : ∀ i : Nat, ∃ j : Nat, i < m → j < o.length ∧ rd o (j : Int) = (i : Int) := by
    intro i
    by_cases hi : i < m
    · apply Classical.byContradiction
      intro hn
      exact hc ⟨i, hi, fun j hj e => hn ⟨j, fun _ => ⟨hj, e⟩⟩⟩
    · exact ⟨0, fun h => absurd h hi⟩
  refine no_inj o.length m (fun i => ((hall i).choose : Int)) hm (fun i hi => ?_) (fun i hi j hj => ?_)
  · have := (hall i).choose_spec hi
    show 0 ≤ ((hall i).choose : Int) ∧ ((hall i).choose : Int) < (o.length : Int)
    omega
  · have a := (hall i).choose_spec hi
    have b := (hall j).choose_spec (by omega)
    intro e
    have e' : ((hall j).choose : Int) = ((hall i).choose : Int) := e
    have e2 : (hall j).choose = (hall i).choose := by omega
    rw [e2] at b
    have := a.2
    have := b.2
    omega
theorem ext_app {m : Nat} {o p : List Int} {i : Int} : EXT m (o ++ [i]) p ↔ EXT m o p ∧ rd p (o.length : Int) = i := by
  constructor
  · rintro ⟨h1, h2⟩
    refine ⟨⟨h1, fun j hj => ?_⟩, ?_⟩
    · rw [h2 j (by simp; omega), rd_app, if_pos hj]
    · rw [h2 o.length (by simp), rd_app, if_neg (by omega), if_pos rfl]
  · rintro ⟨⟨h1, h2⟩, h3⟩
    refine ⟨h1, fun j hj => ?_⟩
    simp only [List.length_append, List.length_singleton] at hj
    rw [rd_app]
    by_cases e : j < o.length
    · rw [if_pos e, h2 j e]
    · rw [if_neg e, if_pos (by omega), show j = o.length by omega, h3]
theorem ext_whole {m : Nat} {o : List Int} (h : ORD o m) (hm : o.length = m) (h1 : 1 ≤ m) (h6 : m ≤ 6) : EACH o (m : Int) ∧ ∀ p, EXT m o p → p = o := by
  refine ⟨⟨h, by omega, by omega⟩, fun p hp => ?_⟩
  have hl : p.length = o.length := by have := hp.1.2.2; omega
  exact rd_ext hl (fun j hj => hp.2 j (by omega))
/-- The lesser one, where a negative number is none. -/
def mnv (v b : Int) : Int := if b < 0 then v else if v < 0 ∨ b < v then b else v
theorem mnv_assoc (a b c : Int) (ha : -1 ≤ a) (hb : -1 ≤ b) (hc : -1 ≤ c) : mnv (mnv a b) c = mnv a (mnv b c) := by
  unfold mnv
  repeat' split
  all_goals omega
theorem mnv_ge {a b : Int} (ha : -1 ≤ a) (hb : -1 ≤ b) : -1 ≤ mnv a b := by
  unfold mnv
  repeat' split
  all_goals omega
/-- b is the least sum of the whole orders that go on o. -/
def LST (l : List S36) (o : List Int) (b : Int) : Prop := (∃ p, EXT l.length o p ∧ WSs l p p.length = b) ∧ ∀ p, EXT l.length o p → b ≤ WSs l p p.length
/-- b is the least sum of those that go on o by i or a greater number; -1 if there is none. -/
def LSF (l : List S36) (o : List Int) (i : Nat) (b : Int) : Prop :=
  (b = -1 ∧ ∀ p, EXT l.length o p → rd p (o.length : Int) < (i : Int)) ∨ ((∃ p, (EXT l.length o p ∧ (i : Int) ≤ rd p (o.length : Int)) ∧ WSs l p p.length = b) ∧ ∀ p, EXT l.length o p → (i : Int) ≤ rd p (o.length : Int) → b ≤ WSs l p p.length)
theorem WSs_nn {l : List S36} (h : TOK l) {p : List Int} (he : EACH p (l.length : Int)) : 0 ≤ WSs l p p.length := (WSs_in h (inr_each he) p.length (Nat.le_refl _)).1
theorem LST.nn {l : List S36} {o : List Int} {b : Int} (h : TOK l) (hb : LST l o b) : 0 ≤ b := by
  obtain ⟨⟨p, hp, rfl⟩, _⟩ := hb
  exact WSs_nn h hp.1
theorem LSF.ge {l : List S36} {o : List Int} {i : Nat} {b : Int} (h : TOK l) (hb : LSF l o i b) : -1 ≤ b := by
  rcases hb with ⟨rfl, _⟩ | ⟨⟨p, hp, rfl⟩, _⟩
  · omega
  · have := WSs_nn h hp.1.1; omega
theorem LST.one {l : List S36} {o : List Int} {b c : Int} (hb : LST l o b) (hc : LST l o c) : b = c := by
  obtain ⟨⟨p, hp, e1⟩, h1⟩ := hb
  obtain ⟨⟨q, hq, e2⟩, h2⟩ := hc
  have := h1 q hq
  have := h2 p hp
  omega
theorem LST.whole {l : List S36} (h : TOK l) {o : List Int} (ho : ORD o l.length) (hm : o.length = l.length) : LST l o (WSs l o o.length) := by
  have h1 := h.2
  obtain ⟨he, hu⟩ := ext_whole ho hm (by omega) (by omega)
  refine ⟨⟨o, ⟨he, fun _ _ => rfl⟩, rfl⟩, fun p hp => ?_⟩
  rw [hu p hp]
  exact Int.le_refl _
/-- At the loop's end. -/
theorem LSF.last {l : List S36} {o : List Int} (hm : o.length < l.length) : LSF l o l.length (-1) := by
  refine .inl ⟨rfl, fun p hp => ?_⟩
  have hl := hp.1.2.2
  exact (hp.1.1 o.length (by omega)).1.2
/-- A number that is there is passed by. -/
theorem LSF.pass {l : List S36} {o : List Int} {i : Nat} {b : Int} (hm : o.length < l.length) (h : ∃ j : Nat, j < o.length ∧ rd o (j : Int) = (i : Int)) (hb : LSF l o (i + 1) b) : LSF l o i b := by
  obtain ⟨j, hj, e⟩ := h
  have hne : ∀ p, EXT l.length o p → rd p (o.length : Int) ≠ (i : Int) := by
    intro p hp e2
    have hl := hp.1.2.2
    exact (hp.1.1 o.length (by omega)).2 j hj (by rw [hp.2 j hj, e, e2])
  rcases hb with ⟨h1, h2⟩ | ⟨⟨p, hp, e1⟩, h2⟩
  · refine .inl ⟨h1, fun p hp => ?_⟩
    have := h2 p hp
    have := hne p hp
    omega
  · refine .inr ⟨⟨p, ⟨hp.1, by have := hp.2; omega⟩, e1⟩, fun q hq hi => h2 q hq ?_⟩
    have := hne q hq
    omega
/-- A number that is not there is tried. -/
theorem LSF.try_ {l : List S36} (ht : TOK l) {o : List Int} {i : Nat} {b c : Int} (hc : LST l (o ++ [(i : Int)]) c) (hb : LSF l o (i + 1) b) : LSF l o i (mnv c b) := by
  have c0 := LST.nn ht hc
  obtain ⟨⟨p, hp, e1⟩, h1⟩ := hc
  rw [ext_app] at hp
  rcases hb with ⟨rfl, h2⟩ | ⟨⟨q, hq, e2⟩, h2⟩
  · have e : mnv c (-1) = c := by unfold mnv; rw [if_pos (by omega)]
    rw [e]
    refine .inr ⟨⟨p, ⟨hp.1, by omega⟩, e1⟩, fun q hq hi => h1 q (ext_app.2 ⟨hq, ?_⟩)⟩
    have := h2 q hq
    omega
  · have b0 : 0 ≤ b := e2 ▸ WSs_nn ht hq.1.1
    have hle : ∀ r, EXT l.length o r → (i : Int) ≤ rd r (o.length : Int) → mnv c b ≤ WSs l r r.length := by
      intro r hr hi
      have m1 : mnv c b ≤ c ∧ mnv c b ≤ b := by
        unfold mnv
        rw [if_neg (by omega)]
        split <;> omega
      by_cases e : rd r (o.length : Int) = (i : Int)
      · have := h1 r (ext_app.2 ⟨hr, e⟩); omega
      · have := h2 r hr (by omega); omega
    refine .inr ⟨?_, hle⟩
    by_cases e : b < c
    · refine ⟨q, ⟨hq.1, by have := hq.2; omega⟩, ?_⟩
      rw [e2]; unfold mnv; rw [if_neg (by omega), if_pos (.inr e)]
    · refine ⟨p, ⟨hp.1, by omega⟩, ?_⟩
      rw [e1]; unfold mnv; rw [if_neg (by omega), if_neg (by omega)]
/-- From the first number on. -/
theorem LSF.all {l : List S36} {o : List Int} {b : Int} (hx : ∃ p, EXT l.length o p) (hm : o.length < l.length) (hb : LSF l o 0 b) : LST l o b := by
  have h0 : ∀ p, EXT l.length o p → (0 : Int) ≤ rd p (o.length : Int) := fun p hp => by
    have hl := hp.1.2.2
    exact (hp.1.1 o.length (by omega)).1.1
  rcases hb with ⟨_, h2⟩ | ⟨⟨p, hp, e1⟩, h2⟩
  · obtain ⟨p, hp⟩ := hx
    have := h0 p hp
    have := h2 p hp
    omega
  · exact ⟨⟨p, hp.1, e1⟩, fun q hq => h2 q hq (h0 q hq)⟩
theorem leastw_has {l : List S36} (h : TOK l) : ∃ b, LST l [] b := by
  have hl := h.2
  have : ∀ (d : Nat) (o : List Int), o.length + d = l.length → ORD o l.length → ∃ b, LST l o b := by
    intro d
    induction d with
    | zero => exact fun o hd ho => ⟨_, LST.whole h ho (by omega)⟩
    | succ d ih =>
      intro o hd ho
      have hx : ∃ p, EXT l.length o p := by
        obtain ⟨i, hi, hn⟩ := ord_more (o := o) (m := l.length) (by omega)
        obtain ⟨c, ⟨⟨p, hp, _⟩, _⟩⟩ := ih (o ++ [(i : Int)]) (by simp; omega) (ord_app ho i hi hn)
        exact ⟨p, (ext_app.1 hp).1⟩
      have hf : ∀ e i : Nat, i + e = l.length → ∃ b, LSF l o i b := by
        intro e
        induction e with
        | zero => intro i hi; obtain rfl : i = l.length := by omega
                  exact ⟨_, LSF.last (by omega)⟩
        | succ e ihe =>
          intro i hi
          obtain ⟨b, hb⟩ := ihe (i + 1) (by omega)
          by_cases hx : ∃ j : Nat, j < o.length ∧ rd o (j : Int) = (i : Int)
          · exact ⟨b, LSF.pass (by omega) hx hb⟩
          · obtain ⟨c, hc⟩ := ih (o ++ [(i : Int)]) (by simp; omega) (ord_app ho i (by omega) (fun j hj e => hx ⟨j, hj, e⟩))
            exact ⟨_, LSF.try_ h hc hb⟩
      obtain ⟨b, hb⟩ := hf l.length 0 (by omega)
      exact ⟨b, LSF.all hx (by omega) hb⟩
  exact this l.length [] (by simp) (fun i hi => by simp at hi)
/-- The least sum of all orders; -1 for others. -/
noncomputable def LWV (l : List S36) : Int := @dite _ (TOK l) (Classical.propDecidable _) (fun h => (leastw_has h).choose) (fun _ => -1)
theorem LWV_pos {l : List S36} (h : TOK l) : LST l [] (LWV l) := by
  unfold LWV
  rw [dif_pos h]
  exact (leastw_has h).choose_spec
theorem LWV_neg {l : List S36} (h : ¬TOK l) : LWV l = -1 := by unfold LWV; rw [dif_neg h]
theorem LWV_le {l : List S36} (h : TOK l) {p : List Int} (hp : EACH p (l.length : Int)) : LWV l ≤ WSs l p p.length := (LWV_pos h).2 p ⟨hp, fun j hj => by simp at hj⟩
theorem LWV_at {l : List S36} (h : TOK l) : ∃ p, EACH p (l.length : Int) ∧ WSs l p p.length = LWV l := by
  obtain ⟨⟨p, hp, e⟩, _⟩ := LWV_pos h
  exact ⟨p, hp.1, e⟩
theorem iweighted_l0 {l : List S36} {o : List Int} (h : TOK l) (ho : INR l o) : ∀ d i : Nat, i + d = o.length → Ev (fun k => impl_weighted.l0 k l (WSs l o i) (WSe l o i) o (o.length : Int) (i : Int)) (WSs l o o.length) := by
  have hl := ho.1
  intro d
  induction d with
  | zero =>
    intro i hi
    obtain rfl : i = o.length := by omega
    refine ev_succ ?_
    simp only [impl_weighted.l0]
    exact ev_neg (by omega) (Ev.now _)
  | succ d ih =>
    intro i hi
    have c := WSe_in h ho i (by omega)
    have c' := WSe_in h ho (i + 1) (by omega)
    have s := WSs_in h ho i (by omega)
    have p := WSp_in h ho i (by omega)
    have r := ho.2 i (by omega)
    have e1 : wrap64 (WSe l o i + (rd_T36 l (rd o (i : Int))).f0) = WSe l o (i + 1) := wrap_id (by simp only [WSe] at c'; omega) (by simp only [WSe] at c'; omega)
    have e2 : wrap64 (WSs l o i + wrap64 ((rd_T36 l (rd o (i : Int))).f1 * WSe l o (i + 1))) = WSs l o (i + 1) := by
      rw [wrap_id (x := _ * _) (by omega) (by omega), wrap_id (by omega) (by omega)]; rfl
    refine ev_succ ?_
    simp only [impl_weighted.l0]
    refine ev_pos (by omega) (ev_pos (by omega) (ev_pos (by omega) (ev_pos r.1 (ev_pos r.2 ?_))))
    rw [e1, e2, wrap_succ (by omega)]
    exact ih (i + 1) (by omega)
theorem iweighted_ev {l : List S36} {o : List Int} (h : TOK l) (ho : INR l o) : Ev (fun k => impl_weighted.f k l o) (WSs l o o.length) := iweighted_l0 h ho o.length 0 (by omega)
theorem Index_l0 (l : List Int) (x : Int) (hl : l.length ≤ 9223372036854775806) : ∀ (d i : Nat), i + d = l.length → (∀ j : Nat, j < i → rd l (j : Int) ≠ x) →
    ∃ r, Ev (fun k => slices_Index_int_int.l0 k l x (l.length : Int) (i : Int)) r ∧ (0 ≤ r ↔ ∃ j : Nat, j < l.length ∧ rd l (j : Int) = x) := by
  intro d
  induction d with
  | zero =>
    intro i hi hr
    refine ⟨-1, ev_succ ?_, ?_⟩
    · simp only [slices_Index_int_int.l0]
      exact ev_neg (by omega) (Ev.now _)
    · constructor
      · intro h; omega
      · rintro ⟨j, h1, h2⟩; exact absurd h2 (hr j (by omega))
  | succ d ih =>
    intro i hi hr
    by_cases h : x = rd l (i : Int)
    · refine ⟨i, ev_succ ?_, ?_⟩
      · simp only [slices_Index_int_int.l0]
        refine ev_pos (by omega) (ev_pos (by omega) (ev_pos (by omega) (ev_pos h (Ev.now _))))
      · exact ⟨fun _ => ⟨i, by omega, h.symm⟩, fun _ => by omega⟩
    · obtain ⟨r, h1, h2⟩ := ih (i + 1) (by omega) (fun j hj => by
        by_cases e : j = i
        · rw [e]; exact fun e2 => h e2.symm
        · exact hr j (by omega))
      refine ⟨r, ev_succ ?_, h2⟩
      simp only [slices_Index_int_int.l0]
      refine ev_pos (by omega) (ev_pos (by omega) (ev_pos (by omega) (ev_neg h ?_)))
      rw [wrap_succ (by omega)]
      exact h1
theorem Contains_ev (l : List Int) (x : Int) (hl : l.length ≤ 9223372036854775806) : Ev (fun k => slices_Contains_int_int.f k l x) (dec (∃ j : Nat, j < l.length ∧ rd l (j : Int) = x)) := by
  unfold slices_Contains_int_int.f
  obtain ⟨r, h1, h2⟩ := Index_l0 l x hl l.length 0 (by omega) (fun j hj => by omega)
  refine Ev.bind (a := r) ?_ (ev_some ?_)
  · unfold slices_Index_int_int.f; exact h1
  · rw [dec_of]; exact dec_congr h2
theorem inr_ord {l : List S36} (h : TOK l) {o : List Int} (ho : ORD o l.length) (hm : o.length ≤ l.length) : INR l o := ⟨by have := h.2; omega, fun i hi => (ho i hi).1⟩
theorem mnv_pos {v n : Int} (hn : 0 ≤ n) : (if v < 0 ∨ n < v then n else v) = mnv v n := by
  unfold mnv
  rw [if_neg (c := n < 0) (by omega)]
theorem iorders_loop {l : List S36} (h : TOK l) {o : List Int} (ho : ORD o l.length) (hm : o.length < l.length)
    (ih : ∀ i : Nat, i < l.length → (∀ j : Nat, j < o.length → rd o (j : Int) ≠ (i : Int)) → ∃ c, LST l (o ++ [(i : Int)]) c ∧ ∀ v, -1 ≤ v → Ev (fun k => impl_orders.g k l (l.length : Int) (o ++ [(i : Int)]) v) (mnv v c)) :
    ∀ d i : Nat, i + d = l.length → ∃ b, LSF l o i b ∧ ∀ v, -1 ≤ v → Ev (fun k => impl_orders.l0 k l (l.length : Int) o v (i : Int)) (mnv v b) := by
  have hl := h.2
  intro d
  induction d with
  | zero =>
    intro i hi
    obtain rfl : i = l.length := by omega
    refine ⟨-1, LSF.last hm, fun v _ => ev_succ ?_⟩
    simp only [impl_orders.l0]
    refine ev_neg (by omega) (ev_some ?_)
    unfold mnv
    rw [if_pos (by omega)]
  | succ d ihd =>
    intro i hi
    obtain ⟨b, hb, hv⟩ := ihd (i + 1) (by omega)
    have hc := Contains_ev o (i : Int) (by omega)
    by_cases hx : ∃ j : Nat, j < o.length ∧ rd o (j : Int) = (i : Int)
    · refine ⟨b, LSF.pass hm hx hb, fun v h1 => ev_succ ?_⟩
      simp only [impl_orders.l0]
      refine ev_pos (by omega) (Ev.bind hc (ev_pos (dec_pos hx) ?_))
      rw [wrap_succ (by omega)]
      exact hv v h1
    · obtain ⟨c, hc1, hc2⟩ := ih i (by omega) (fun j hj e => hx ⟨j, hj, e⟩)
      have c0 := LST.nn h hc1
      refine ⟨mnv c b, LSF.try_ h hc1 hb, fun v h1 => ev_succ ?_⟩
      simp only [impl_orders.l0]
      refine ev_pos (by omega) (Ev.bind hc (ev_neg (by rw [dec_neg hx]; simp) (ev_pos (by omega) (Ev.bind (hc2 v h1) ?_))))
      rw [wrap_succ (by omega), ← mnv_assoc v c b h1 (by omega) (LSF.ge h hb)]
      exact hv _ (mnv_ge h1 (by omega))
theorem iorders_ev {l : List S36} (h : TOK l) : ∀ (d : Nat) (o : List Int), o.length + d = l.length → ORD o l.length → ∃ b, LST l o b ∧ ∀ v, -1 ≤ v → Ev (fun k => impl_orders.g k l (l.length : Int) o v) (mnv v b) := by
  intro d
  induction d with
  | zero =>
    intro o hd ho
    have hw := LST.whole h ho (by omega)
    refine ⟨_, hw, fun v _ => ev_succ ?_⟩
    simp only [impl_orders.g]
    exact ev_pos (by omega) (Ev.bind (iweighted_ev h (inr_ord h ho (by omega))) (ev_some (mnv_pos (LST.nn h hw))))
  | succ d ih =>
    intro o hd ho
    have ih' : ∀ i : Nat, i < l.length → (∀ j : Nat, j < o.length → rd o (j : Int) ≠ (i : Int)) → ∃ c, LST l (o ++ [(i : Int)]) c ∧ ∀ v, -1 ≤ v → Ev (fun k => impl_orders.g k l (l.length : Int) (o ++ [(i : Int)]) v) (mnv v c) :=
      fun i hi hn => ih (o ++ [(i : Int)]) (by simp; omega) (ord_app ho i hi hn)
    obtain ⟨b, hb, hv⟩ := iorders_loop h ho (by omega) ih' l.length 0 (by omega)
    have hx : ∃ p, EXT l.length o p := by
      obtain ⟨i, hi, hn⟩ := ord_more (o := o) (m := l.length) (by omega)
      obtain ⟨c, ⟨⟨p, hp, _⟩, _⟩, _⟩ := ih' i hi hn
      exact ⟨p, (ext_app.1 hp).1⟩
    refine ⟨b, LSF.all hx (by omega) hb, fun v h1 => ev_succ ?_⟩
    simp only [impl_orders.g]
    exact ev_neg (by omega) (hv v h1)
theorem iTasksOk_l0 (l : List S36) (hl : l.length ≤ 9223372036854775806) : ∀ d i : Nat, i + d = l.length →
    Ev (fun k => impl_TasksOk.l0 k l l (l.length : Int) (i : Int)) (dec ((∀ j : Nat, i ≤ j → j < l.length → TIn (rd_T36 l (j : Int))) ∧ 1 ≤ (l.length : Int) ∧ (l.length : Int) ≤ 6)) := by
  intro d
  induction d with
  | zero =>
    intro i hi
    refine ev_succ ?_
    simp only [impl_TasksOk.l0]
    refine ev_neg (by omega) ?_
    obtain rfl : i = l.length := by omega
    by_cases h : (l.length : Int) ≥ 1
    · refine ev_pos h (ev_some ?_)
      rw [dec_of]
      exact dec_congr ⟨fun e => ⟨from_end, h, e⟩, fun e => e.2.2⟩
    · exact ev_neg h (ev_some (dec_neg (fun e => h e.2.1)).symm)
  | succ d ih =>
    intro i hi
    refine ev_succ ?_
    simp only [impl_TasksOk.l0]
    have hs := from_step (i := i) (n := l.length) (Q := fun j => TIn (rd_T36 l (j : Int))) (by omega)
    refine ev_pos (by omega) (ev_pos (by omega) (ev_pos (by omega) ?_))
    by_cases h1 : (rd_T36 l (i : Int)).f0 < 1
    · exact ev_pos h1 (ev_some (dec_neg (fun x => by have := (hs.1 x.1).1.1.1; omega)).symm)
    refine ev_neg h1 ?_
    by_cases h2 : (rd_T36 l (i : Int)).f0 > 9
    · exact ev_pos h2 (ev_some (dec_neg (fun x => by have := (hs.1 x.1).1.1.2; omega)).symm)
    refine ev_neg h2 ?_
    by_cases h3 : (rd_T36 l (i : Int)).f1 < 0
    · exact ev_pos h3 (ev_some (dec_neg (fun x => by have := (hs.1 x.1).1.2.1; omega)).symm)
    refine ev_neg h3 ?_
    by_cases h4 : (rd_T36 l (i : Int)).f1 > 9
    · exact ev_pos h4 (ev_some (dec_neg (fun x => by have := (hs.1 x.1).1.2.2; omega)).symm)
    refine ev_neg h4 ?_
    rw [wrap_succ (by omega)]
    refine ev_to (ih (i + 1) (by omega)) (dec_congr ?_)
    rw [hs]
    exact ⟨fun x => ⟨⟨⟨⟨by omega, by omega⟩, by omega, by omega⟩, x.1⟩, x.2⟩, fun x => ⟨x.1.2, x.2⟩⟩
theorem iTasksOk_ev (l : List S36) (hl : l.length ≤ 9223372036854775806) : Ev (fun k => impl_TasksOk.f k l) (dec (TOK l)) := iTasksOk_l0 l hl l.length 0 (by omega)
theorem iLeastWeighted_ev (l : List S36) (hl : l.length ≤ 9223372036854775806) : Ev (fun k => impl_LeastWeighted.f k l) (LWV l) := by
  unfold impl_LeastWeighted.f
  refine Ev.bind (iTasksOk_ev l hl) ?_
  by_cases h : TOK l
  · refine ev_pos (dec_pos h) ?_
    obtain ⟨b, hb, hv⟩ := iorders_ev h l.length [] (by simp) (fun i hi => by simp at hi)
    have e : mnv (-1) b = LWV l := by
      rw [LST.one (LWV_pos h) hb]
      have := LST.nn h hb
      unfold mnv
      rw [if_neg (by omega), if_pos (.inl (by omega))]
    exact ev_to (hv (-1) (by omega)) e
  · exact ev_neg (by rw [dec_neg h]; simp) (ev_some (LWV_neg h).symm)
/-- The weighted sum, or -1. -/
noncomputable def WSUM (l : List S36) (o : List Int) : Int := @ite _ (TOK l ∧ EACH o (l.length : Int)) (Classical.propDecidable _) (WSs l o o.length) (-1)
theorem WSUM_pos {l : List S36} {o : List Int} (h : TOK l) (he : EACH o (l.length : Int)) : WSUM l o = WSs l o o.length := by unfold WSUM; exact if_pos ⟨h, he⟩
theorem WSUM_neg {l : List S36} {o : List Int} (h : ¬ (TOK l ∧ EACH o (l.length : Int))) : WSUM l o = -1 := by unfold WSUM; exact if_neg h
theorem iEach_l0 (l : List Int) (m : Int) (hl : l.length ≤ 9223372036854775806) : ∀ d i : Nat, i + d = l.length → (∀ j : Nat, j < i → (0 ≤ rd l (j : Int) ∧ rd l (j : Int) < m) ∧ ∀ j' : Nat, j' < j → rd l (j' : Int) ≠ rd l (j : Int)) →
    Ev (fun k => impl_EachOnce.l0 k l m l (l.length : Int) (i : Int)) (dec (EACH l m)) := by
  intro d
  induction d with
  | zero =>
    intro i hi hr
    refine ev_succ ?_
    simp only [impl_EachOnce.l0]
    refine ev_neg (by omega) ?_
    by_cases h1 : m ≥ 1
    · refine ev_pos h1 ?_
      by_cases h2 : m ≤ 6
      · refine ev_pos h2 (ev_some ?_)
        rw [dec_bool (b := _ == _)]
        refine dec_congr ?_
        simp only [beq_iff_eq]
        exact ⟨fun e => ⟨fun j hj => hr j (by omega), ⟨h1, h2⟩, e⟩, fun e => e.2.2⟩
      · exact ev_neg h2 (ev_some (dec_neg (fun e => h2 e.2.1.2)).symm)
    · exact ev_neg h1 (ev_some (dec_neg (fun e => h1 e.2.1.1)).symm)
  | succ d ih =>
    intro i hi hr
    refine ev_succ ?_
    simp only [impl_EachOnce.l0]
    refine ev_pos (by omega) (ev_pos (by omega) (ev_pos (by omega) ?_))
    by_cases h1 : rd l (i : Int) < 0
    · refine ev_pos h1 (ev_some (dec_neg ?_).symm)
      intro e; have := (e.1 i (by omega)).1.1; omega
    · refine ev_neg h1 ?_
      by_cases h2 : rd l (i : Int) ≥ m
      · refine ev_pos h2 (ev_some (dec_neg ?_).symm)
        intro e; have := (e.1 i (by omega)).1.2; omega
      · refine ev_neg h2 (ev_pos (by omega) (Ev.bind (Contains_ev _ _ (by rw [List.length_take]; omega)) ?_))
        by_cases h3 : ∃ j : Nat, j < (l.take (i : Int).toNat).length ∧ rd (l.take (i : Int).toNat) (j : Int) = rd l (i : Int)
        · refine ev_pos (dec_pos h3) (ev_some (dec_neg ?_).symm)
          intro e
          obtain ⟨j, hj, he⟩ := h3
          have hj' : j < i := by rw [List.length_take] at hj; omega
          rw [show ((i : Int).toNat) = i from rfl, rd_take _ _ _ hj'] at he
          exact (e.1 i (by omega)).2 j hj' he
        · refine ev_neg (by rw [dec_neg h3]; simp) ?_
          rw [wrap_succ (by omega)]
          refine ih (i + 1) (by omega) ?_
          intro j hj
          by_cases e : j = i
          · subst e
            refine ⟨⟨by omega, by omega⟩, fun j' hj' he => h3 ⟨j', ?_, ?_⟩⟩
            · rw [List.length_take]; omega
            · rw [show ((j : Int).toNat) = j from rfl, rd_take _ _ _ hj']; exact he
          · exact hr j (by omega)
theorem iEachOnce_ev (l : List Int) (m : Int) (hl : l.length ≤ 9223372036854775806) : Ev (fun k => impl_EachOnce.f k l m) (dec (EACH l m)) := by
  unfold impl_EachOnce.f
  exact iEach_l0 l m hl l.length 0 (by omega) (fun j hj => by omega)
theorem iWeightedSum_ev (l : List S36) (o : List Int) (hl : l.length ≤ 9223372036854775806) (hl2 : o.length ≤ 9223372036854775806) : Ev (fun k => impl_WeightedSum.f k l o) (WSUM l o) := by
  unfold impl_WeightedSum.f
  refine Ev.bind (iTasksOk_ev l hl) ?_
  by_cases h : TOK l
  · refine ev_pos (dec_pos h) (Ev.bind (iEachOnce_ev o _ hl2) ?_)
    by_cases h2 : EACH o (l.length : Int)
    · exact ev_pos (dec_pos h2) (Ev.bind (iweighted_ev h (inr_each h2)) (ev_some (WSUM_pos h h2).symm))
    · exact ev_neg (by rw [dec_neg h2]; simp) (ev_some (WSUM_neg (fun x => h2 x.2)).symm)
  · exact ev_neg (by rw [dec_neg h]; simp) (ev_some (WSUM_neg (fun x => h x.1)).symm)
theorem l1In_eq (a b c : Int) : spec_l1In.f a b c = some (dec (b ≤ a ∧ a ≤ c)) := by
  unfold spec_l1In.f
  by_cases h : a ≥ b
  · rw [if_pos h]
    by_cases h2 : a ≤ c
    · rw [decide_eq_true h2, dec_pos ⟨h, h2⟩]
    · rw [decide_eq_false h2, dec_neg (fun x => h2 x.2)]
  · rw [if_neg h, dec_neg (fun x => h x.1)]
theorem l1In_ev (a b c : Int) : Ev (fun _ => spec_l1In.f a b c) (dec (b ≤ a ∧ a ≤ c)) := Ev.congr (fun _ => l1In_eq a b c) (Ev.now _)
theorem sTasksOk_l0 (l : List S36) (hl : l.length ≤ 9223372036854775806) : ∀ d i : Nat, i + d = l.length →
    Ev (fun k => spec_TasksOk.l0 k l (i : Int)) (dec ((∀ j : Nat, i ≤ j → j < l.length → TIn (rd_T36 l (j : Int))) ∧ 1 ≤ (l.length : Int) ∧ (l.length : Int) ≤ 6)) := by
  intro d
  induction d with
  | zero =>
    intro i hi
    refine ev_succ ?_
    simp only [spec_TasksOk.l0]
    refine ev_neg (by omega) (Ev.bind (l1In_ev _ _ _) (ev_some (dec_congr ?_)))
    obtain rfl : i = l.length := by omega
    exact ⟨fun h => ⟨from_end, h⟩, fun h => h.2⟩
  | succ d ih =>
    intro i hi
    refine ev_succ ?_
    simp only [spec_TasksOk.l0]
    have hs := from_step (i := i) (n := l.length) (Q := fun j => TIn (rd_T36 l (j : Int))) (by omega)
    refine ev_pos (by omega) (ev_pos (by omega) (Ev.bind (l1In_ev _ _ _) ?_))
    by_cases h1 : 1 ≤ (rd_T36 l (i : Int)).f0 ∧ (rd_T36 l (i : Int)).f0 ≤ 9
    · refine ev_pos (dec_pos h1) (Ev.bind (l1In_ev _ _ _) ?_)
      by_cases h2 : 0 ≤ (rd_T36 l (i : Int)).f1 ∧ (rd_T36 l (i : Int)).f1 ≤ 9
      · refine ev_pos (dec_pos h2) ?_
        rw [wrap_succ (by omega)]
        refine ev_to (ih (i + 1) (by omega)) (dec_congr ?_)
        rw [hs]
        exact ⟨fun x => ⟨⟨⟨h1, h2⟩, x.1⟩, x.2⟩, fun x => ⟨x.1.2, x.2⟩⟩
      · exact ev_neg (by rw [dec_neg h2]; simp) (ev_some (dec_neg (fun x => h2 (hs.1 x.1).1.2)).symm)
    · exact ev_neg (by rw [dec_neg h1]; simp) (ev_some (dec_neg (fun x => h1 (hs.1 x.1).1.1)).symm)
theorem sTasksOk_ev (l : List S36) (hl : l.length ≤ 9223372036854775806) : Ev (fun k => spec_TasksOk.f k l) (dec (TOK l)) := sTasksOk_l0 l hl l.length 0 (by omega)
def EACHs (l : List Int) (m : Int) (i : Nat) : Prop := (∀ j : Nat, i ≤ j → j < l.length → (0 ≤ rd l (j : Int) ∧ rd l (j : Int) ≤ wrap64 (m - 1)) ∧ ∀ j' : Nat, 0 ≤ j' → j' < j → rd l (j' : Int) ≠ rd l (j : Int)) ∧ (1 ≤ m ∧ m ≤ 6) ∧ (l.length : Int) = m
theorem sEach_l1 (l : List Int) (m : Int) (hl : l.length ≤ 9223372036854775806) (i : Nat) (hi : i < l.length) (R : Prop) (H : Ev (fun k => spec_EachOnce.l0 k l m ((i + 1 : Nat) : Int)) (dec R)) :
    ∀ d j : Nat, j + d = i → Ev (fun k => spec_EachOnce.l1 k l m (i : Int) (j : Int)) (dec ((∀ j' : Nat, j ≤ j' → j' < i → rd l (j' : Int) ≠ rd l (i : Int)) ∧ R)) := by
  intro d
  induction d with
  | zero =>
    intro j hj
    obtain rfl : j = i := by omega
    refine ev_succ ?_
    simp only [spec_EachOnce.l1]
    refine ev_neg (by omega) ?_
    rw [wrap_succ (by omega)]
    exact ev_to H (dec_congr ⟨fun h => ⟨from_end, h⟩, fun h => h.2⟩)
  | succ d ih =>
    intro j hj
    refine ev_succ ?_
    simp only [spec_EachOnce.l1]
    refine ev_pos (by omega) (ev_pos (by omega) (ev_pos (by omega) (ev_pos (by omega) (ev_pos (by omega) ?_))))
    by_cases e : rd l (j : Int) = rd l (i : Int)
    · refine ev_pos e (ev_some (dec_neg ?_).symm)
      intro h; exact h.1 j (Nat.le_refl _) (by omega) e
    · refine ev_neg e ?_
      rw [wrap_succ (by omega)]
      refine ev_to (ih (j + 1) (by omega)) (dec_congr ?_)
      rw [from_step (i := j) (n := i) (by omega)]
      exact ⟨fun h => ⟨⟨e, h.1⟩, h.2⟩, fun h => ⟨h.1.2, h.2⟩⟩
theorem sEach_l0 (l : List Int) (m : Int) (hl : l.length ≤ 9223372036854775806) : ∀ d i : Nat, i + d = l.length → Ev (fun k => spec_EachOnce.l0 k l m (i : Int)) (dec (EACHs l m i)) := by
  intro d
  induction d with
  | zero =>
    intro i hi
    refine ev_succ ?_
    simp only [spec_EachOnce.l0]
    refine ev_neg (by omega) (Ev.bind (l1In_ev _ _ _) ?_)
    obtain rfl : i = l.length := by omega
    by_cases h : 1 ≤ m ∧ m ≤ 6
    · refine ev_pos (dec_pos h) (ev_some ?_)
      rw [dec_bool (b := _ == _)]
      refine dec_congr ?_
      simp only [beq_iff_eq]
      exact ⟨fun e => ⟨from_end, h, e⟩, fun e => e.2.2⟩
    · refine ev_neg (by rw [dec_neg h]; simp) (ev_some (dec_neg (fun e => h e.2.1)).symm)
  | succ d ih =>
    intro i hi
    refine ev_succ ?_
    simp only [spec_EachOnce.l0]
    refine ev_pos (by omega) (ev_pos (by omega) (Ev.bind (l1In_ev _ _ _) ?_))
    have hs := from_step (i := i) (n := l.length) (Q := fun j => (0 ≤ rd l (j : Int) ∧ rd l (j : Int) ≤ wrap64 (m - 1)) ∧ ∀ j' : Nat, 0 ≤ j' → j' < j → rd l (j' : Int) ≠ rd l (j : Int)) (by omega)
    by_cases h : 0 ≤ rd l (i : Int) ∧ rd l (i : Int) ≤ wrap64 (m - 1)
    · refine ev_pos (dec_pos h) ?_
      refine ev_to (sEach_l1 l m hl i (by omega) _ (ih (i + 1) (by omega)) i 0 (by omega)) (dec_congr ?_)
      unfold EACHs
      rw [hs]
      exact ⟨fun x => ⟨⟨⟨h, x.1⟩, x.2.1⟩, x.2.2⟩, fun x => ⟨x.1.1.2, x.1.2, x.2⟩⟩
    · refine ev_neg (by rw [dec_neg h]; simp) (ev_some (dec_neg ?_).symm)
      intro x; exact h (hs.1 x.1).1.1
theorem sEachOnce_ev (l : List Int) (m : Int) (hl : l.length ≤ 9223372036854775806) : Ev (fun k => spec_EachOnce.f k l m) (dec (EACH l m)) := by
  unfold spec_EachOnce.f
  refine ev_to (sEach_l0 l m hl l.length 0 (by omega)) (dec_congr ?_)
  unfold EACHs EACH
  constructor
  · rintro ⟨h, hm, hn⟩
    rw [wrap_id (by omega) (by omega)] at h
    exact ⟨fun i hi => ⟨⟨(h i (by omega) hi).1.1, by have := (h i (by omega) hi).1.2; omega⟩, fun j hj => (h i (by omega) hi).2 j (by omega) hj⟩, hm, hn⟩
  · rintro ⟨h, hm, hn⟩
    rw [wrap_id (by omega) (by omega)]
    exact ⟨fun i _ hi => ⟨⟨(h i hi).1.1, by have := (h i hi).1.2; omega⟩, fun j _ hj => (h i hi).2 j hj⟩, hm, hn⟩
theorem sWeighted_l0 {l : List S36} {o : List Int} (h : TOK l) (ho : INR l o) : ∀ d i : Nat, i + d = o.length → Ev (fun k => spec_WeightedSum.l0 k l o (WSs l o i) (WSe l o i) (i : Int)) (WSs l o o.length) := by
  have hl := ho.1
  intro d
  induction d with
  | zero =>
    intro i hi
    obtain rfl : i = o.length := by omega
    refine ev_succ ?_
    simp only [spec_WeightedSum.l0]
    exact ev_neg (by omega) (Ev.now _)
  | succ d ih =>
    intro i hi
    have c := WSe_in h ho i (by omega)
    have c' := WSe_in h ho (i + 1) (by omega)
    have s := WSs_in h ho i (by omega)
    have p := WSp_in h ho i (by omega)
    have r := ho.2 i (by omega)
    have e1 : wrap64 (WSe l o i + (rd_T36 l (rd o (i : Int))).f0) = WSe l o (i + 1) := wrap_id (by simp only [WSe] at c'; omega) (by simp only [WSe] at c'; omega)
    have e2 : wrap64 (WSs l o i + wrap64 (WSe l o (i + 1) * (rd_T36 l (rd o (i : Int))).f1)) = WSs l o (i + 1) := by
      rw [Int.mul_comm, wrap_id (x := _ * _) (by omega) (by omega), wrap_id (by omega) (by omega)]; rfl
    refine ev_succ ?_
    simp only [spec_WeightedSum.l0]
    refine ev_pos (by omega) (ev_pos (by omega) (ev_pos r.1 (ev_pos r.2 ?_)))
    rw [e1, e2, wrap_succ (by omega)]
    exact ih (i + 1) (by omega)
theorem sWeightedSum_ev (l : List S36) (o : List Int) (hl : l.length ≤ 9223372036854775806) (hl2 : o.length ≤ 9223372036854775806) : Ev (fun k => spec_WeightedSum.f k l o) (WSUM l o) := by
  unfold spec_WeightedSum.f
  have no : ∀ b, b = true → WSUM l o = -1 → Ev (fun k => spec_WeightedSum.j0 k l o b) (WSUM l o) := by
    intro b hb he
    refine ev_succ ?_
    simp only [spec_WeightedSum.j0]
    exact ev_pos hb (ev_some he.symm)
  refine Ev.bind (sTasksOk_ev l hl) ?_
  by_cases h : TOK l
  · refine ev_pos (dec_pos h) (Ev.bind (sEachOnce_ev o _ hl2) ?_)
    by_cases h2 : EACH o (l.length : Int)
    · refine ev_succ ?_
      simp only [spec_WeightedSum.j0]
      rw [WSUM_pos h h2, dec_pos h2]
      exact ev_neg (by simp) (sWeighted_l0 h (inr_each h2) o.length 0 (by omega))
    · exact no _ (by rw [dec_neg h2]; rfl) (WSUM_neg (fun x => h2 x.2))
  · exact ev_neg (by rw [dec_neg h]; simp) (no _ rfl (WSUM_neg (fun x => h x.1)))
theorem iSwappedAt_ev (l : List Int) (a : Int) (hl : l.length ≤ 1048576) : Ev (fun k => impl_SwappedAt.f k l a) (SWV l a) := by
  unfold impl_SwappedAt.f
  refine Ev.bind (iEachOnce_ev _ _ (by omega)) ?_
  by_cases he : EACH l (l.length : Int)
  · refine ev_pos (dec_pos he) ?_
    rw [wrap_id (x := (l.length : Int) - 1) (by omega) (by omega)]
    by_cases h0 : a < 0
    · refine ev_pos h0 (ev_some ?_)
      rw [SWV_neg (fun h => by have := h.2; omega)]
    · refine ev_neg h0 ?_
      by_cases h1 : a ≥ (l.length : Int) - 1
      · refine ev_pos h1 (ev_some ?_)
        rw [SWV_neg (fun h => by have := h.2; omega)]
      · refine ev_neg h1 ?_
        obtain ⟨n, rfl⟩ := Int.eq_ofNat_of_zero_le (show 0 ≤ a by omega)
        have hc : slices_Clone_int_int.f l = some l := if_pos (by omega)
        rw [wrap_succ (i := n) (by omega), SWV_pos ⟨he, by omega⟩, hc]
        simp only [Option.bind_some]
        exact ev_pos (by omega) (ev_pos (by omega) (ev_pos (by omega) (ev_pos (by omega) (Ev.now _))))
  · refine ev_neg (by rw [dec_neg he]; simp) (ev_some ?_)
    rw [SWV_neg (fun h => he h.1)]
/-- Bytes. -/
def BY (l : List Int) : Prop := l.length ≤ 2000 ∧ ∀ j : Nat, j < l.length → 0 ≤ rd l (j : Int) ∧ rd l (j : Int) ≤ 255
theorem by_of {l : List Int} (h : ∀ x ∈ l, (Lit.int .u8 x).wf = true) (j : Nat) (hj : j < l.length) : 0 ≤ rd l (j : Int) ∧ rd l (j : Int) ≤ 255 := by
  have h1 := h _ (rd_mem hj)
  have h2 : (decide (IntKind.u8.min ≤ rd l (j : Int)) && decide (rd l (j : Int) ≤ IntKind.u8.max)) = true := h1
  have a : IntKind.u8.min = 0 := by decide
  have b : IntKind.u8.max = 255 := by decide
  rw [a, b] at h2
  simpa using h2
theorem xor_nonneg {a b : Int} (ha : 0 ≤ a) (ha2 : a < 4611686018427387904) (hb : 0 ≤ b) (hb2 : b < 4611686018427387904) : 0 ≤ Go.bits .xor .i64 a b := by
  obtain ⟨m, rfl⟩ := Int.eq_ofNat_of_zero_le ha
  obtain ⟨n, rfl⟩ := Int.eq_ofNat_of_zero_le hb
  have hm : m < 2 ^ 62 := by omega
  have hn : n < 2 ^ 62 := by omega
  have hx : m ^^^ n < 2 ^ 62 := Nat.xor_lt_two_pow hm hn
  have e : Go.bits .xor .i64 (m : Int) (n : Int) = Go.IntKind.wrap .i64 ((m ^^^ n : Nat) : Int) := by
    show Go.IntKind.wrap .i64 ((BitVec.ofInt 64 (m : Int) ^^^ BitVec.ofInt 64 (n : Int)).toNat : Int) = _
    rw [BitVec.ofInt_natCast, BitVec.ofInt_natCast, BitVec.toNat_xor, BitVec.toNat_ofNat, BitVec.toNat_ofNat, Nat.mod_eq_of_lt (by omega), Nat.mod_eq_of_lt (by omega)]
  rw [e, Go.IntKind.wrap_i64]
  omega
theorem tmod_in {x n : Int} (h : 0 ≤ x) (hn : 0 < n) : 0 ≤ Int.tmod x n ∧ Int.tmod x n < n := ⟨Int.tmod_nonneg _ h, Int.tmod_lt_of_pos _ hn⟩
theorem rd_by {l : List Int} (h : BY l) (x : Int) (h0 : 0 ≤ x) (h1 : x < (l.length : Int)) : 0 ≤ rd l x ∧ rd l x ≤ 255 := by
  obtain ⟨m, rfl⟩ := Int.eq_ofNat_of_zero_le h0
  exact h.2 m (by omega)
theorem pick_ev {l : List Int} (h : BY l) {p : Int} (h0 : 0 ≤ p) (hp : p ≤ 1073741824) (n : Int) : ∃ v, Ev (fun k => spec_l20Rd_pick.f k l p n) (v, p + 1) ∧ 0 ≤ v ∧ (0 < n → v < n) := by
  unfold spec_l20Rd_pick.f
  rw [wrap_id (x := p + 1) (by omega) (by omega)]
  by_cases hn : n < 1
  · refine ⟨0, ev_pos hn (ev_succ ?_), Int.le_refl _, fun h => h⟩
    simp only [spec_l20Rd_pick.j0]
    exact ev_pos (by simp) (Ev.now _)
  · have hl := h.1
    by_cases hz : l.length = 0
    · refine ⟨0, ev_neg hn (ev_succ ?_), Int.le_refl _, fun h => h⟩
      simp only [spec_l20Rd_pick.j0]
      exact ev_pos (by simp [hz]) (Ev.now _)
    · have e1 : wrap64 (p + 1 - 1) = p := by rw [wrap_id (by omega) (by omega)]; omega
      by_cases hlt : p < (l.length : Int)
      · have hb := rd_by h p h0 hlt
        refine ⟨Int.tmod (wrap64 (rd l p)) n, ev_neg hn (ev_succ ?_), ?_⟩
        · simp only [spec_l20Rd_pick.j0, e1]
          exact ev_neg (by rw [beq_iff_eq]; omega) (ev_pos hlt (ev_pos h0 (ev_neg (by omega) (Ev.now _))))
        · rw [wrap_id (by omega) (by omega)]
          exact ⟨(tmod_in hb.1 (by omega)).1, fun _ => (tmod_in hb.1 (by omega)).2⟩
      · have b1 := tmod_in h0 (n := (l.length : Int)) (by omega)
        have r1 := rd_by h _ b1.1 b1.2
        have e2 : wrap64 (wrap64 (p * 7) + 3) = p * 7 + 3 := by rw [wrap_id (x := p * 7) (by omega) (by omega), wrap_id (by omega) (by omega)]
        have b2 := tmod_in (x := p * 7 + 3) (by omega) (n := (l.length : Int)) (by omega)
        have r2 := rd_by h _ b2.1 b2.2
        have d1 : 0 ≤ Int.tdiv p (l.length : Int) := Int.tdiv_nonneg h0 (by omega)
        have d2 : Int.tdiv p (l.length : Int) ≤ p := Int.tdiv_le_self _ h0
        obtain ⟨x, hx⟩ : ∃ x, x = rd l (Int.tmod p (l.length : Int)) * 131 + rd l (Int.tmod (p * 7 + 3) (l.length : Int)) * 1117 + p * 29 + Int.tdiv p (l.length : Int) * 53 := ⟨_, rfl⟩
        have ex : wrap64 (wrap64 (wrap64 (wrap64 (wrap64 (rd l (Int.tmod p (l.length : Int))) * 131) + wrap64 (wrap64 (rd l (Int.tmod (p * 7 + 3) (l.length : Int))) * 1117)) + wrap64 (p * 29)) + wrap64 (wrap64 (Int.tdiv p (l.length : Int)) * 53)) = x := by
          rw [wrap_id (x := rd l (Int.tmod p (l.length : Int))) (by omega) (by omega), wrap_id (x := rd l (Int.tmod (p * 7 + 3) (l.length : Int))) (by omega) (by omega), wrap_id (x := Int.tdiv p (l.length : Int)) (by omega) (by omega),
            wrap_id (x := rd l (Int.tmod p (l.length : Int)) * 131) (by omega) (by omega), wrap_id (x := rd l (Int.tmod (p * 7 + 3) (l.length : Int)) * 1117) (by omega) (by omega), wrap_id (x := p * 29) (by omega) (by omega),
            wrap_id (x := Int.tdiv p (l.length : Int) * 53) (by omega) (by omega), wrap_id (x := rd l (Int.tmod p (l.length : Int)) * 131 + _) (by omega) (by omega), wrap_id (x := rd l (Int.tmod p (l.length : Int)) * 131 + rd l (Int.tmod (p * 7 + 3) (l.length : Int)) * 1117 + p * 29) (by omega) (by omega), wrap_id (by omega) (by omega), hx]
        have hx0 : 0 ≤ x := by omega
        have hx1 : x < 4611686018427387904 := by omega
        have d3 : 0 ≤ Int.tdiv x 64 := Int.tdiv_nonneg hx0 (by omega)
        have d4 : Int.tdiv x 64 ≤ x := Int.tdiv_le_self _ hx0
        have e3 : wrap64 (Int.tdiv x 64) = Int.tdiv x 64 := wrap_id (by omega) (by omega)
        have hxor := xor_nonneg hx0 hx1 d3 (by omega)
        refine ⟨Int.tmod (Go.bits .xor .i64 x (Int.tdiv x 64)) n, ev_neg hn (ev_succ ?_), (tmod_in hxor (by omega)).1, fun _ => (tmod_in hxor (by omega)).2⟩
        simp only [spec_l20Rd_pick.j0, e1, e2, ex, e3]
        exact ev_neg (by rw [beq_iff_eq]; omega) (ev_neg hlt (ev_neg (by omega) (ev_pos b1.1 (ev_pos b1.2 (ev_pos b2.1 (ev_pos b2.2 (ev_neg (by omega) (Ev.now _))))))))
theorem odd_ev {l : List Int} (h : BY l) {p : Int} (h0 : 0 ≤ p) (hp : p ≤ 1073741824) (n : Int) : ∃ b q, Ev (fun k => spec_l20Rd_odd.f k l p n) (b, q) ∧ 0 ≤ q ∧ q ≤ p + 1 := by
  unfold spec_l20Rd_odd.f
  by_cases hn : n > 0
  · obtain ⟨v, hv, _⟩ := pick_ev h h0 hp n
    exact ⟨_, _, ev_pos hn (Ev.bind hv (Ev.now _)), by simp only; omega, by simp only; omega⟩
  · exact ⟨_, _, ev_neg hn (Ev.now _), h0, by omega⟩
theorem l20Tasks_l0 {B : List Int} (h : BY B) (n hi : Int) (hh : 1 ≤ hi ∧ hi ≤ 9) : ∀ (d : Nat) (o : List S36) (p : Int), 0 ≤ p → p + 2 * d ≤ 1073741000 → o.length + d ≤ 100 → 1 ≤ o.length + d →
    ∃ t q, Ev (fun k => spec_l20Tasks.l0 k n o hi (d : Int) B p) (t, q) ∧ t.length ≤ 101 ∧ 0 ≤ q ∧ q ≤ p + 2 * d + 2 := by
  intro d
  induction d with
  | zero =>
    intro o p h0 hp ho ho1
    obtain ⟨b, q, hb, hq0, hq⟩ := odd_ev h h0 (by omega) n
    cases b with
    | true =>
      obtain ⟨v, hv, hv0, hv3⟩ := pick_ev h hq0 (by omega) 3
      by_cases e0 : v = 0
      · refine ⟨[], q + 1, ev_succ ?_, by simp, by omega, by omega⟩
        simp only [spec_l20Tasks.l0]
        exact ev_neg (by simp) (Ev.bind hb (ev_pos rfl (Ev.bind hv (ev_pos e0 (Ev.now _)))))
      · by_cases e1 : v = 1
        · refine ⟨o.set 0 ⟨0, (rd_T36 o 0).f1⟩, q + 1, ev_succ ?_, by rw [List.length_set]; omega, by omega, by omega⟩
          simp only [spec_l20Tasks.l0]
          exact ev_neg (by simp) (Ev.bind hb (ev_pos rfl (Ev.bind hv (ev_neg e0 (ev_pos e1 (ev_pos (by omega) (Ev.now _)))))))
        · refine ⟨o ++ [⟨1, 10⟩], q + 1, ev_succ ?_, by simp; omega, by omega, by omega⟩
          simp only [spec_l20Tasks.l0]
          exact ev_neg (by simp) (Ev.bind hb (ev_pos rfl (Ev.bind hv (ev_neg e0 (ev_neg e1 (ev_pos (by omega) (Ev.now _)))))))
    | false =>
      refine ⟨o, q, ev_succ ?_, by omega, by omega, by omega⟩
      simp only [spec_l20Tasks.l0]
      exact ev_neg (by simp) (Ev.bind hb (ev_neg (by simp) (Ev.now _)))
  | succ d ih =>
    intro o p h0 hp ho ho1
    obtain ⟨v, hv, hv0, _⟩ := pick_ev h h0 (by omega) hi
    obtain ⟨u, hu, hu0, _⟩ := pick_ev h (p := p + 1) (by omega) (by omega) (wrap64 (hi + 1))
    obtain ⟨t, q, ht, hl, hq0, hq⟩ := ih (o ++ [⟨wrap64 (1 + v), u⟩]) (p + 1 + 1) (by omega) (by omega) (by simp; omega) (by simp; omega)
    refine ⟨t, q, ev_succ ?_, hl, hq0, by omega⟩
    simp only [spec_l20Tasks.l0]
    refine ev_pos (by omega) (Ev.bind hv (Ev.bind hu (ev_pos (by omega) ?_)))
    rw [show wrap64 (((d + 1 : Nat) : Int) - 1) = (d : Int) by rw [wrap_id (by omega) (by omega)]; omega]
    exact ht
theorem l20Tasks_ev {B : List Int} (h : BY B) {p : Int} (h0 : 0 ≤ p) (hp : p ≤ 1000000) (n : Int) : ∃ t q, Ev (fun k => spec_l20Tasks.f k B p n) (t, q) ∧ t.length ≤ 101 ∧ 0 ≤ q ∧ q ≤ p + 20 := by
  unfold spec_l20Tasks.f
  obtain ⟨v, hv, hv0, hv2⟩ := pick_ev h h0 (by omega) 2
  obtain ⟨u, hu, hu0, hu5⟩ := pick_ev h (p := p + 1) (by omega) (by omega) 5
  have hh : 1 ≤ rd [3, 9] v ∧ rd [3, 9] v ≤ 9 := by
    have : v = 0 ∨ v = 1 := by have := hv2 (by omega); omega
    rcases this with rfl | rfl <;> decide
  obtain ⟨d, hd⟩ := Int.eq_ofNat_of_zero_le (show 0 ≤ 1 + u by omega)
  have hu5 := hu5 (by omega)
  obtain ⟨t, q, ht, hl, hq0, hq⟩ := l20Tasks_l0 h n _ hh d [] (p + 1 + 1) (by omega) (by omega) (by simp; omega) (by simp; omega)
  refine ⟨t, q, ?_, hl, hq0, by omega⟩
  refine Ev.bind (Ev.now _) (Ev.bind hv (ev_pos hv0 (ev_pos (by simp; omega) (Ev.bind hu ?_))))
  simp only
  rw [wrap_id (x := 1 + u) (by omega) (by omega), hd]
  exact ht
theorem l20Perm_l0 {B : List Int} (h : BY B) (n : Nat) (hn : n ≤ 1000) : ∀ (d i : Nat) (o : List Int) (p : Int), i + d = n → o.length = i → 0 ≤ p → p + d ≤ 1073741000 →
    ∃ t q, Ev (fun k => spec_l20Perm.l0 k (n : Int) o (i : Int) B p) (t, q) ∧ t.length = n ∧ 0 ≤ q ∧ q ≤ p + d := by
  intro d
  induction d with
  | zero =>
    intro i o p hi ho h0 hp
    refine ⟨o, p, ev_succ ?_, by omega, h0, by omega⟩
    simp only [spec_l20Perm.l0]
    exact ev_neg (by omega) (Ev.now _)
  | succ d ih =>
    intro i o p hi ho h0 hp
    obtain ⟨v, hv, hv0, hv2⟩ := pick_ev h h0 (by omega) ((i + 1 : Nat) : Int)
    have hv2 := hv2 (by omega)
    have l1 : (o.take v.toNat).length ≤ o.length := by rw [List.length_take]; omega
    have l2 : (o.drop v.toNat).length ≤ o.length := by rw [List.length_drop]; omega
    have l3 : (([] : List Int) ++ o.take v.toNat ++ [(i : Int)] ++ o.drop v.toNat).length = i + 1 := by simp; omega
    obtain ⟨t, q, ht, hl, hq0, hq⟩ := ih (i + 1) (([] : List Int) ++ o.take v.toNat ++ [(i : Int)] ++ o.drop v.toNat) (p + 1) (by omega) l3 (by omega) (by omega)
    refine ⟨t, q, ev_succ ?_, hl, hq0, by omega⟩
    simp only [spec_l20Perm.l0, Option.bind_some]
    rw [wrap_succ (by omega)]
    exact ev_pos (by omega) (Ev.bind hv (ev_pos hv0 (ev_pos (by simp only; omega) (ev_pos (by simp; omega) (ev_pos (by simp; omega) (ev_pos (by simp; omega) ht))))))
theorem l20Perm_ev {B : List Int} (h : BY B) (n : Nat) (hn : n ≤ 1000) {p : Int} (h0 : 0 ≤ p) (hp : p ≤ 1073000000) : ∃ t q, Ev (fun k => spec_l20Perm.f k B p (n : Int)) (t, q) ∧ t.length = n ∧ 0 ≤ q ∧ q ≤ p + n := by
  unfold spec_l20Perm.f
  exact l20Perm_l0 h n hn n 0 [] p (by omega) rfl h0 (by omega)
theorem open_ev {l : List Int} (h : ∀ x ∈ l, (Lit.int .u8 x).wf = true) : ∃ q, BY q ∧ Ev (fun _ => spec_l20Open.f l) (q, 0) := by
  unfold spec_l20Open.f
  by_cases h1 : (l.length : Int) > 2000
  · refine ⟨l.take 2000, ⟨by rw [List.length_take]; omega, fun j hj => ?_⟩, ev_pos h1 (ev_pos (by omega) (Ev.now _))⟩
    rw [List.length_take] at hj
    rw [rd_take _ _ _ (by omega)]
    exact by_of h j (by omega)
  · exact ⟨l, ⟨by omega, fun j hj => by_of h j hj⟩, ev_neg h1 (Ev.now _)⟩
theorem DrawWeightedSum_ev {l : List Int} (h : ∀ x ∈ l, (Lit.int .u8 x).wf = true) : ∃ t o, Ev (fun k => spec_DrawWeightedSum.f k l) (t, o) ∧ t.length ≤ 101 ∧ o.length ≤ 102 := by
  unfold spec_DrawWeightedSum.f
  obtain ⟨B, hB, ho⟩ := open_ev h
  obtain ⟨t, q, ht, hl, hq0, hq⟩ := l20Tasks_ev hB (p := 0) (by omega) (by omega) 12
  obtain ⟨v, hv, hv0, hv20⟩ := pick_ev hB (p := q) hq0 (by omega) 20
  have hv20 := hv20 (by omega)
  have e1 : wrap64 (Int.tdiv v 19) = Int.tdiv v 19 := by
    rw [Int.tdiv_eq_ediv_of_nonneg hv0]
    exact wrap_id (by omega) (by omega)
  obtain ⟨n, hn⟩ := Int.eq_ofNat_of_zero_le (show 0 ≤ (t.length : Int) + Int.tdiv v 19 by rw [Int.tdiv_eq_ediv_of_nonneg hv0]; omega)
  have hn2 : n ≤ 102 := by rw [Int.tdiv_eq_ediv_of_nonneg hv0] at hn; omega
  have e2 : wrap64 ((t.length : Int) + Int.tdiv v 19) = (n : Int) := by rw [wrap_id (by omega) (by omega), hn]
  obtain ⟨o, q2, hp, hol, _, _⟩ := l20Perm_ev hB n (by omega) (p := q + 1) (by omega) (by omega)
  refine ⟨t, o, Ev.bind ho (Ev.bind ht (Ev.bind hv ?_)), hl, by omega⟩
  simp only [e1, e2]
  exact Ev.bind hp (Ev.now _)
theorem sCustomer_nat (l : List S60) (i : Nat) : rd_T60 l (i : Int) = l.getD i z60 := rfl
theorem sCustomer_get {l : List S60} {i : Nat} (h : i < l.length) : rd_T60 l (i : Int) = l[i] := by
  rw [sCustomer_nat, List.getD_eq_getElem?_getD, List.getElem?_eq_getElem h]; rfl
theorem sCustomer_set (l : List S60) (i j : Nat) (v : S60) (h : i < l.length) : rd_T60 (l.set i v) (j : Int) = if j = i then v else rd_T60 l (j : Int) := by
  rw [sCustomer_nat, sCustomer_nat, List.getD_eq_getElem?_getD, List.getElem?_set]
  by_cases e : i = j
  · subst e; rw [if_pos rfl, if_pos h, if_pos rfl]; rfl
  · rw [if_neg e, if_neg (fun x => e x.symm), ← List.getD_eq_getElem?_getD]
theorem sCustomer_app (l : List S60) (v : S60) (j : Nat) : rd_T60 (l ++ [v]) (j : Int) = if j < l.length then rd_T60 l (j : Int) else if j = l.length then v else z60 := by
  rw [sCustomer_nat, sCustomer_nat, List.getD_eq_getElem?_getD, List.getD_eq_getElem?_getD, List.getElem?_append]
  by_cases h : j < l.length
  · rw [if_pos h, if_pos h]
  · rw [if_neg h, if_neg h]
    by_cases e : j = l.length
    · subst e; rw [if_pos rfl]; simp
    · rw [if_neg e, List.getElem?_eq_none (by simp; omega)]; rfl
theorem sCustomer_take (l : List S60) (n j : Nat) (h : j < n) : rd_T60 (l.take n) (j : Int) = rd_T60 l (j : Int) := by
  rw [sCustomer_nat, sCustomer_nat, List.getD_eq_getElem?_getD, List.getElem?_take, if_pos h, ← List.getD_eq_getElem?_getD]
theorem sCustomer_drop (l : List S60) (n j : Nat) : rd_T60 (l.drop n) (j : Int) = rd_T60 l ((n + j : Nat) : Int) := by
  rw [sCustomer_nat, sCustomer_nat, List.getD_eq_getElem?_getD, List.getElem?_drop, ← List.getD_eq_getElem?_getD]
theorem sCustomer_ext {a b : List S60} (hl : a.length = b.length) (h : ∀ j : Nat, j < a.length → rd_T60 a (j : Int) = rd_T60 b (j : Int)) : a = b := by
  refine List.ext_getElem hl fun j h1 h2 => ?_
  have := h j h1
  rw [sCustomer_get h1, sCustomer_get h2] at this
  exact this
def CIn (l : List S60) (j : Nat) : Prop := (0 ≤ (rd_T60 l (j : Int)).f0 ∧ (rd_T60 l (j : Int)).f0 ≤ 60) ∧ (1 ≤ (rd_T60 l (j : Int)).f1 ∧ (rd_T60 l (j : Int)).f1 ≤ 9) ∧ (0 < j → (rd_T60 l ((j : Int) - 1)).f0 ≤ (rd_T60 l (j : Int)).f0)
/-- Customers. -/
def COK (l : List S60) : Prop := (∀ j : Nat, 0 ≤ j → j < l.length → CIn l j) ∧ (l.length : Int) ≤ 8
theorem iCustomersOk_l0 (l : List S60) (hl : l.length ≤ 9223372036854775806) : ∀ d i : Nat, i + d = l.length →
    Ev (fun k => impl_CustomersOk.l0 k l l (l.length : Int) (i : Int)) (dec ((∀ j : Nat, i ≤ j → j < l.length → CIn l j) ∧ (l.length : Int) ≤ 8)) := by
  intro d
  induction d with
  | zero =>
    intro i hi
    refine ev_succ ?_
    simp only [impl_CustomersOk.l0]
    refine ev_neg (by omega) (ev_some ?_)
    obtain rfl : i = l.length := by omega
    rw [dec_of]
    exact dec_congr ⟨fun h => ⟨from_end, h⟩, fun h => h.2⟩
  | succ d ih =>
    intro i hi
    refine ev_succ ?_
    simp only [impl_CustomersOk.l0]
    have hs := from_step (i := i) (n := l.length) (Q := fun j => CIn l j) (by omega)
    refine ev_pos (by omega) (ev_pos (by omega) (ev_pos (by omega) ?_))
    by_cases h1 : (rd_T60 l (i : Int)).f0 < 0
    · exact ev_pos h1 (ev_some (dec_neg (fun x => by have := (hs.1 x.1).1.1.1; omega)).symm)
    refine ev_neg h1 ?_
    by_cases h2 : (rd_T60 l (i : Int)).f0 > 60
    · exact ev_pos h2 (ev_some (dec_neg (fun x => by have := (hs.1 x.1).1.1.2; omega)).symm)
    refine ev_neg h2 ?_
    rw [wrap_succ (by omega), wrap_pred (by omega)]
    have fin : (0 < i → (rd_T60 l ((i : Int) - 1)).f0 ≤ (rd_T60 l (i : Int)).f0) → Ev (fun k => if (rd_T60 l (i : Int)).f1 < 1 then some false else if (rd_T60 l (i : Int)).f1 > 9 then some false else impl_CustomersOk.l0 k l l (l.length : Int) ((i + 1 : Nat) : Int)) (dec ((∀ j : Nat, i ≤ j → j < l.length → CIn l j) ∧ (l.length : Int) ≤ 8)) := by
      intro hp
      by_cases h3 : (rd_T60 l (i : Int)).f1 < 1
      · exact ev_pos h3 (ev_some (dec_neg (fun x => by have := (hs.1 x.1).1.2.1.1; omega)).symm)
      refine ev_neg h3 ?_
      by_cases h4 : (rd_T60 l (i : Int)).f1 > 9
      · exact ev_pos h4 (ev_some (dec_neg (fun x => by have := (hs.1 x.1).1.2.1.2; omega)).symm)
      refine ev_neg h4 (ev_to (ih (i + 1) (by omega)) (dec_congr ?_))
      rw [hs]
      exact ⟨fun x => ⟨⟨⟨⟨by omega, by omega⟩, ⟨by omega, by omega⟩, hp⟩, x.1⟩, x.2⟩, fun x => ⟨x.1.2, x.2⟩⟩
    by_cases h5 : (i : Int) > 0
    · refine ev_pos h5 (ev_pos (by omega) (ev_pos (by omega) ?_))
      by_cases h6 : (rd_T60 l (i : Int)).f0 < (rd_T60 l ((i : Int) - 1)).f0
      · exact ev_pos h6 (ev_some (dec_neg (fun x => by have := (hs.1 x.1).1.2.2 (by omega); omega)).symm)
      · exact ev_neg h6 (fin (fun _ => by omega))
    · exact ev_neg h5 (fin (fun h => by omega))
theorem iCustomersOk_ev (l : List S60) (hl : l.length ≤ 9223372036854775806) : Ev (fun k => impl_CustomersOk.f k l) (dec (COK l)) := iCustomersOk_l0 l hl l.length 0 (by omega)
theorem alive_ev : Ev (fun k => laws_alive.f k) true := by
  unfold laws_alive.f
  refine Ev.bind (iCustomersOk_ev _ (by decide)) (ev_pos (dec_pos ?_) (Ev.bind (iCustomersOk_ev _ (by decide)) (ev_some ?_)))
  · refine ⟨fun j _ hj => ?_, by decide⟩
    obtain rfl : j = 0 := by simp at hj; omega
    exact ⟨by decide, by decide, fun h => absurd h (by decide)⟩
  · rw [dec_neg]
    · rfl
    · intro h
      exact absurd (h.1 0 (Nat.le_refl _) (by decide)).2.1.1 (by decide)
theorem FnWeightedSum_l0 {l : List S36} {o : List Int} (h : TOK l) (he : EACH o (l.length : Int)) : ∀ (d i : Nat), i + d = o.length → Ev (fun k => laws_FnWeightedSum.l0 k l o (WSs l o o.length) (i : Int)) true := by
  have hl := h.2
  have ho := he.2.2
  have stop : ∀ i : Nat, o.length ≤ i + 1 → i ≤ o.length → Ev (fun k => laws_FnWeightedSum.l0 k l o (WSs l o o.length) (i : Int)) true := by
    intro i hi hi2
    refine ev_succ ?_
    simp only [laws_FnWeightedSum.l0]
    refine ev_neg (by rw [wrap_succ (by omega)]; omega) (Ev.bind (iLeastWeighted_ev l (by omega)) (ev_pos (LWV_le h he) (Ev.bind alive_ev (Ev.now _))))
  intro d
  induction d with
  | zero => exact fun i hi => stop i (by omega) (by omega)
  | succ d ih =>
    intro i hi
    by_cases c : o.length ≤ i + 1
    · exact stop i c (by omega)
    refine ev_succ ?_
    simp only [laws_FnWeightedSum.l0]
    have ha : i + 1 < o.length := by omega
    have hso : EACH o (o.length : Int) := by rw [ho]; exact he
    have hsw : SWV o (i : Int) = (sw o i, true) := SWV_pos ⟨hso, by omega, by omega⟩
    have r1 := (he.1 i (by omega)).1
    have r2 := (he.1 (i + 1) ha).1
    have t1 := tin_of h _ r1.1 r1.2
    have t2 := tin_of h _ r2.1 r2.2
    have p1 := mul_in (a := (rd_T36 l (rd o (i : Int))).f1) (b := (rd_T36 l (rd o ((i + 1 : Nat) : Int))).f0) (A := 9) (B := 9) t1.2.1 t1.2.2 (by have := t2.1.1; omega) t2.1.2
    have p2 := mul_in (a := (rd_T36 l (rd o ((i + 1 : Nat) : Int))).f1) (b := (rd_T36 l (rd o (i : Int))).f0) (A := 9) (B := 9) t2.2.1 t2.2.2 (by have := t1.1.1; omega) t1.1.2
    have s0 := WSs_in h (inr_each he) o.length (Nat.le_refl _)
    rw [wrap_succ (by omega)]
    refine ev_pos (by omega) (Ev.bind (iSwappedAt_ev o (i : Int) (by omega)) ?_)
    rw [hsw]
    refine ev_pos (by omega) (ev_pos (by omega) (ev_pos r1.1 (ev_pos r1.2 (ev_pos (by omega) (ev_pos r2.1 (ev_pos r2.2 (ev_pos rfl (Ev.bind (iWeightedSum_ev l (sw o i) (by omega) (by rw [sw_len]; omega)) (ev_pos ?_ (ih (i + 1) (by omega)))))))))))
    rw [WSUM_pos h (each_sw_lt he ha), WSs_sw l ha, wrap_id (x := _ * (rd_T36 l (rd o ((i + 1 : Nat) : Int))).f0) (by omega) (by omega), wrap_id (x := _ * (rd_T36 l (rd o (i : Int))).f0) (by omega) (by omega), wrap_id (x := WSs l o o.length + _) (by omega) (by omega), wrap_id (by omega) (by omega)]
theorem FnWeightedSum : laws_FnWeightedSum.Pure := by
  intro l0 _ _ hb
  refine Ev.rounds ?_
  unfold laws_FnWeightedSum.f
  by_cases h : (l0.length : Int) > 1048576
  · exact ev_pos h (Ev.now _)
  · obtain ⟨t, o, ht, hl, hl2⟩ := DrawWeightedSum_ev hb
    refine ev_neg h (Ev.bind ht (Ev.bind (iWeightedSum_ev t o (by omega) (by omega)) (Ev.bind (sWeightedSum_ev t o (by omega) (by omega)) (ev_pos rfl ?_))))
    by_cases c : TOK t ∧ EACH o (t.length : Int)
    · have n0 := WSs_nn c.1 c.2
      simp only
      rw [WSUM_pos c.1 c.2]
      exact ev_neg (by omega) (FnWeightedSum_l0 c.1 c.2 o.length 0 (by omega))
    · simp only
      rw [WSUM_neg c]
      exact ev_pos (by omega) (ev_pos rfl (Ev.bind alive_ev (Ev.now _)))
end Go.Proofs.Ytclodndgieefcaa.Pure
