/- Contracts of the functions that the law FnByRatio uses, written by a program of this session (wip/print2.py) over a turned copy of the kit's print; nothing is assumed. -/
import Derived.Test.YtclodndgieefcaaQFnByRatiox0
import Derived.Test.YtclodndgieefcaaQFnByRatiox1
import Derived.Test.YtclodndgieefcaaQFnByRatiox2
import Derived.Shelf.SlSortCmp.Insertion
namespace Go.Proofs.Ytclodndgieefcaa.PFnByRatio
open Go.RowKit Go.Proofs.YtclodndgieefcaaW.PrintWords Go.Proofs.YtclodndgieefcaaW.PrintLast Go.Proofs.YtclodndgieefcaaW.PrintMore
attribute [local go_sem] max2_int min2_int max_two min_two max_three min_three max_four min_four   -- for this text's walks alone
set_option linter.unusedVariables false
set_option linter.unusedSimpArgs false

/-! ### impl_ByRatio: function 27, with its closure (53), slices.SortStableFunc (52), stableCmpFunc (63), insertionSortCmpFunc (65: the library's contract) -/
/-- What ByRatio's closure returns for two places. -/
def cmpv (l : List S36) (x y : Int) : Int := wrap64 (wrap64 ((rd_T36 l x).f0 * (rd_T36 l y).f1) - wrap64 ((rd_T36 l y).f0 * (rd_T36 l x).f1))
set_option maxHeartbeats 8000000 in
set_option maxRecDepth 100000 in
theorem br53 (l : List S36) (AL : Option Addr) (cl bl : Nat) (x y : Int) (W : World) (hl : W.cell? ⟨bl, 0, none⟩ = some (.slice AL l.length cl)) (hC : Kd.C k36 W AL l.length l)
    (x0 : 0 ≤ x) (x1 : x < (l.length : Int)) (y0 : 0 ≤ y) (y1 : y < (l.length : Int)) :
    Calls Try.prog 53 #[.int .i64 x, .int .i64 y, .pointer (some ⟨bl, 0, none⟩)] W fun e w' => e = .returned (.int .i64 (cmpv l x y)) ∧ ∃ q, w' = W.drewN q := by
  obtain ⟨adx, ex, hx0, hx1⟩ := at_T36 hC x x0 x1
  obtain ⟨ady, ey, hy0, hy1⟩ := at_T36 hC y y0 y1
  subst ex
  obtain rfl : adx = ady := by injection ey
  clear ey hC
  replace x0 := eq_true x0
  replace x1 := eq_true x1
  replace y0 := eq_true y0
  replace y1 := eq_true y1
  go_enter Try.func53, Try.ntmps53
  go_wp2
  go_quiet (fail)
  go_wp2
  go_ret
  exact ⟨rfl, nq, rfl⟩
/-- slices.insertionSortCmpFunc[int] is the library's. -/
def rhoS : Go.Shelf.Ren := ⟨fun | 20 => 65 | n => n, fun | 0 => 0 | 3 => 3 | 4 => 4 | 22 => 22 | 24 => 3 | 25 => 64 | n => n, fun n => n⟩
theorem insLays : SlLaysF.n20 Try.prog rhoS where
  mixed := by kernel_rfl
  f20 := ⟨ "slices.insertionSortCmpFunc[int]", by decide, by kernel_rfl⟩
  t0 := Try.underlying0
  a0 := Try.isAgg0
  z0 := Try.sizeOf0
  v0 := Try.zeroValue0
  t3 := Try.underlying3
  a3 := Try.isAgg3
  z3 := Try.sizeOf3
  v3 := Try.zeroValue3
  t4 := Try.underlying4
  a4 := Try.isAgg4
  z4 := Try.sizeOf4
  v4 := Try.zeroValue4
  t22 := Try.underlying22
  a22 := Try.isAgg22
  z22 := Try.sizeOf22
  v22 := Try.zeroValue22
  a24 := Try.isAgg3
  z24 := Try.sizeOf3
  t25 := Try.underlying64
  a25 := Try.isAgg64
  z25 := Try.sizeOf64
  v25 := Try.zeroValue64
/-- A place of the list; 0 for others. -/
def clampB (n : Nat) (x : Int) : Int := if 0 ≤ x ∧ x < (n : Int) then x else 0
def encB (n : Nat) (x : Int) : Value := .int .i64 (clampB n x)
def cfB (l : List S36) (x y : Int) : Int := cmpv l (clampB l.length x) (clampB l.length y)
theorem clampB_in {n : Nat} (h : 0 < n) (x : Int) : 0 ≤ clampB n x ∧ clampB n x < (n : Int) := by
  unfold clampB
  split <;> omega
theorem keep_sort (enc : Int → Value) (w : World) (g m : Nat) (dk : Array Int) (os : Array Obj) : KeepBut w (sortWorld enc w g 0 m dk os) g none := by
  unfold sortWorld Go.Sort.grow Go.Sort.putRow Go.Sort.mapBlock Go.Sort.ahead
  refine ⟨by simp, fun i hi hne _ => ?_⟩
  simp only
  rw [Array.getElem?_append_left (by simpa using hi), Array.getElem?_modify, if_neg (fun e => hne e.symm)]
theorem brCmp (l : List S36) (AL : Option Addr) (cl bl g n : Nat) (w : World) (hl : w.cell? ⟨bl, 0, none⟩ = some (.slice AL l.length cl)) (hC : Kd.C k36 w AL l.length l) (hp : 0 < l.length) (hbl : bl ≠ g) (hAL : ∀ ad, AL = some ad → 0 < l.length → ad.block ≠ g) :
    CmpReads Try.prog 53 #[.pointer (some ⟨bl, 0, none⟩)] (encB l.length) (cfB l) g 0 n w := by
  intro m os dk _ x y
  have hk := keep_sort (encB l.length) w g m dk os
  have hC' := Kd.C_foot_ne (fun {W W' x cs} h => by rw [k36_open h]; exact k36_mk W' x) hC hAL _ hk
  exact br53 l AL cl bl _ _ _ (keep_cell hk hl hbl) hC' (clampB_in hp x).1 (clampB_in hp x).2 (clampB_in hp y).1 (clampB_in hp y).2
set_option maxHeartbeats 8000000 in
set_option maxRecDepth 100000 in
theorem br63 (g n cap bl : Nat) (w : World) (P : World → Prop) (hn : n < 20)
    (h : Calls Try.prog 65 #[.slice (some ⟨g, 0, none⟩) n cap, .int .i64 0, .int .i64 n, .func (.func 53) #[] #[.pointer (some ⟨bl, 0, none⟩)]] w fun e w' => e = .returned (.tuple #[]) ∧ P w') :
    Calls Try.prog 63 #[.slice (some ⟨g, 0, none⟩) n cap, .int .i64 n, .func (.func 53) #[] #[.pointer (some ⟨bl, 0, none⟩)]] w fun e w' => e = .returned (.tuple #[]) ∧ P w' := by
  have H := Aside0.mk h
  have d1 : decide ((20 : Int) ≤ (n : Int)) = false := decide_eq_false (by omega)
  have d2 : decide ((20 : Int) < (n : Int)) = false := decide_eq_false (by omega)
  clear h
  go_enter Try.func63, Try.ntmps63
  go_wp2
  refine wp_loop_rounds 1 ?_
  rw [rounds_succ]
  go_wp2_with (first | (go_at_call 65; (with_reducible refine H.out.mono ?_); rintro e w' ⟨rfl, hP⟩; have HP := Aside0.mk hP; clear hP))
  refine wp_loop_rounds 1 ?_
  rw [rounds_succ]
  go_wp2
  go_end0
  exact ⟨rfl, HP.out⟩
set_option maxHeartbeats 8000000 in
set_option maxRecDepth 100000 in
theorem br52 (g n cap bl : Nat) (w : World) (P : World → Prop) (hn : n < 20)
    (h : Calls Try.prog 65 #[.slice (some ⟨g, 0, none⟩) n cap, .int .i64 0, .int .i64 n, .func (.func 53) #[] #[.pointer (some ⟨bl, 0, none⟩)]] w fun e w' => e = .returned (.tuple #[]) ∧ P w') :
    Calls Try.prog 52 #[.slice (some ⟨g, 0, none⟩) n cap, .func (.func 53) #[] #[.pointer (some ⟨bl, 0, none⟩)]] w fun e w' => e = .returned (.tuple #[]) ∧ P w' := by
  have H := Aside0.mk (br63 g n cap bl w P hn h)
  clear h
  go_enter Try.func52, Try.ntmps52
  go_wp2_with (first | (go_at_call 63; (with_reducible refine H.out.mono ?_); rintro e w' ⟨rfl, hP⟩; have HP := Aside0.mk hP; clear hP))
  go_end0
  exact ⟨rfl, HP.out⟩
theorem br_holds {w : World} {base g cap m : Nat} {y : List Int} (h : w.ownsRow base 3 1 (.slice (some ⟨g, 0, none⟩) y.length cap) y.length (encs (Value.int .i64) y)) (hy : ∀ x ∈ y, 0 ≤ x ∧ x < (m : Int)) : Go.Sort.Holds (encB m) w g 0 y.toArray := by
  obtain ⟨h1, h2⟩ := h
  rcases h2 with ⟨h2, _⟩ | ⟨g', cap', cur, he, hb, hg, hnc, hcm, hcs, ht⟩
  · cases h2
  cases he
  intro j hj
  simp only [List.size_toArray] at hj
  refine ⟨?_, blk_frozen hg _⟩
  rw [Nat.zero_add, blk_cell hg j]
  have e1 : (encs (Value.int .i64) y)[j]? = some (.int .i64 y[j]) := by simp [encs, List.getElem?_eq_getElem hj]
  rw [← ht, List.getElem?_take, if_pos (by omega), Array.getElem?_toList] at e1
  rw [e1]
  have e2 : y.toArray[j]! = y[j] := by rw [getElem!_pos _ j (by simpa using hj)]; simp
  rw [e2]
  unfold encB clampB
  rw [if_pos (hy _ (List.getElem_mem hj))]
theorem br_row {w : World} {base g cap m q : Nat} {y d : List Int} (hd : d.length = y.length) (h : w.ownsRow base 3 1 (.slice (some ⟨g, 0, none⟩) y.length cap) y.length (encs (Value.int .i64) y)) :
    ((Go.Sort.putRow (encB m) w g 0 d.toArray).drewN q).ownsRow base 3 1 (.slice (some ⟨g, 0, none⟩) y.length cap) (d.map (clampB m)).length (encs (Value.int .i64) (d.map (clampB m))) := by
  obtain ⟨h1, h2⟩ := h
  rcases h2 with ⟨h2, _⟩ | ⟨g', cap', cur, he, hb, hg, hnc, hcm, hcs, ht⟩
  · cases h2
  cases he
  rw [List.length_map, hd]
  refine ⟨by simp [encs, hd], .inr ⟨g, cap, Go.Sort.putCells (encB m) 0 d.toArray cur, rfl, hb, ?_, hnc, hcm, ?_, ?_⟩⟩
  · show (Go.Sort.putRow (encB m) w g 0 d.toArray).heap[g]? = _
    simp [Go.Sort.putRow, Go.Sort.mapBlock, Array.getElem?_modify, hg, Go.Sort.onCells]
  · simp [Go.Sort.putCells, hcs]
  · refine List.ext_getElem? fun k => ?_
    rw [List.getElem?_take, Array.getElem?_toList]
    by_cases hk : k < y.length
    · rw [if_pos (by omega)]
      have hkd : k < d.length := by omega
      have hkc : k < cur.size := by omega
      have e2 : d.toArray[k]! = d[k] := by rw [getElem!_pos _ k (by simpa using hkd)]; simp
      simp [Go.Sort.putCells, encs, List.getElem?_eq_getElem hkd, Array.getElem?_eq_getElem hkc, hkd, encB]
    · rw [if_neg (by omega), List.getElem?_eq_none (by simp [encs]; omega)]
theorem below_row {w W : World} {g q m : Nat} {d : Array Int} (h : Below w.heap.size w W) (hg : w.heap.size ≤ g) : Below w.heap.size w ((Go.Sort.putRow (encB m) W g 0 d).drewN q) := by
  refine ⟨h.os, h.tape, h.output, ?_, fun k hk => ?_⟩
  · show w.heap.size ≤ (Go.Sort.putRow (encB m) W g 0 d).heap.size
    rw [Go.Sort.size_putRow]
    exact h.size
  · show (Go.Sort.putRow (encB m) W g 0 d).heap[k]? = _
    unfold Go.Sort.putRow Go.Sort.mapBlock
    rw [Array.getElem?_modify, if_neg (by omega)]
    exact h.block k hk
theorem size_insInner (lt : Int → Int → Bool) (a : Nat) : ∀ (j : Nat) (d : Array Int), (Go.Sort.insInner lt a j d).size = d.size
  | 0, d => rfl
  | j + 1, d => by
    unfold Go.Sort.insInner
    split
    · rw [size_insInner lt a j, Go.Sort.size_swp]
    · rfl
theorem size_insOuter (lt : Int → Int → Bool) (a b : Nat) : ∀ (n i : Nat) (d : Array Int), b - i = n → (Go.Sort.insOuter lt a b i d).size = d.size
  | 0, i, d, h => by rw [Go.Sort.insOuter, if_neg (by omega)]
  | n + 1, i, d, h => by rw [Go.Sort.insOuter, if_pos (by omega), size_insOuter lt a b n (i + 1) _ (by omega), size_insInner]
/-- The places, sorted as slices.SortStableFunc does it for so few. -/
def sortBR (l : List S36) (y : List Int) : List Int := ((Go.Sort.insertionSort (ltOf (cfB l)) y.toArray 0 y.length).toList).map (clampB l.length)
def impl_ByRatio.f (k : Nat) (l0 : List (S36)) : Option (List Int) := (impl_TasksOk.f k l0).bind fun t => (if t = true then ((impl_numbered.f k (l0.length : Int)).bind fun y => (if 0 < y.length ∧ y.length < 20 ∧ ∀ x ∈ y, 0 ≤ x ∧ x < (l0.length : Int) then (some (sortBR l0 y)) else (none))) else (some []))
theorem impl_ByRatio.mono : ∀ a0 k, LeO (impl_ByRatio.f k a0) (impl_ByRatio.f (k + 1) a0) := by
  intro a0 k
  unfold impl_ByRatio.f
  exact LeO.bind (impl_TasksOk.mono _ _) (fun _ => LeO.ite (LeO.bind (impl_numbered.mono _ _) (fun _ => LeO.refl _)) (LeO.refl _))
set_option maxHeartbeats 8000000 in
set_option maxRecDepth 100000 in
theorem impl_ByRatio.calls (k : Nat) (A0 : Option Addr) (c0 : Nat) (l0 : List (S36)) (r : List Int) (w : World) (hr0 : Kd.C k36 w A0 l0.length l0) (hc0 : l0.length ≤ c0) (h : impl_ByRatio.f k l0 = some r) :
    Calls Try.prog 27 #[.slice A0 l0.length c0] w fun e w' => ∃ v0_ : Value, e = .returned (v0_) ∧ Kd.R (Kd.int .i64) 3 w' w.heap.size (fun _ => True) v0_ r ∧ Below w.heap.size w w' := by
  have HR0 := Aside0.mk hr0
  have HC0 := Aside0.mk hc0
  clear hr0 hc0
  have HB := Aside0.mk (Below.refl w.heap.size w)
  unfold impl_ByRatio.f at h
  obtain ⟨t, h1, h2⟩ := Option.bind_eq_some_iff.mp h
  have H1 := Aside0.mk h1
  clear h h1
  cases t with
  | false =>
    have H2 : [] = r := by rw [if_neg (by simp)] at h2; exact Option.some.inj h2
    subst H2
    clear h2
    go_enter Try.func27, Try.ntmps27
    go_wp2_with (first | (go_at_call 22; (with_reducible refine (impl_TasksOk.calls k _ _ l0 false _ ?side1 ?side2 H1.out).mono ?_); (case side1 => exact (Kd.C_alloc HR0.out _)); (case side2 => exact HC0.out); rintro e w5 ⟨rfl, hb⟩; have n0_ := Aside0.mk (below_step (below_alloc HB.out _) hb); clear HB; have HB := n0_; clear n0_; clear hb))
    go_ret
    exact ⟨_, rfl, Kd.R_nil _ _ _ _ _, HB.out⟩
  | true =>
    rw [if_pos rfl] at h2
    obtain ⟨y, h3, h4⟩ := Option.bind_eq_some_iff.mp h2
    have hc : 0 < y.length ∧ y.length < 20 ∧ ∀ x ∈ y, 0 ≤ x ∧ x < (l0.length : Int) := Classical.byContradiction fun hc => by rw [if_neg hc] at h4; cases h4
    rw [if_pos hc] at h4
    have HS := Aside0.mk (Option.some.inj h4)
    have H3 := Aside0.mk h3
    have HY := Aside0.mk hc
    clear h2 h3 h4 hc
    go_enter Try.func27, Try.ntmps27
    go_wp2_with fail
    refine (impl_TasksOk.calls k _ _ l0 true _ (Kd.C_alloc HR0.out _) HC0.out H1.out).mono ?_
    rintro e w5 ⟨rfl, hb⟩
    have hl5 : w5.cell? ⟨w.heap.size, 0, none⟩ = some (.slice A0 l0.length c0) := (hb.cell (p := ⟨w.heap.size, 0, none⟩) (by simp)).trans (by go_simp)
    have n0_ := Aside0.mk (below_step (below_alloc HB.out _) hb)
    have LT := Aside0.mk (show w.heap.size + 1 ≤ w5.heap.size by have := hb.size; simpa using this)
    clear HB hb
    have HB := n0_
    clear n0_
    go_wp2_with fail
    refine (impl_numbered.calls k _ y _ H3.out).mono ?_
    rintro e w6 ⟨v6, rfl, hR, hb⟩
    have hl6 : w6.cell? ⟨w.heap.size, 0, none⟩ = some (.slice A0 l0.length c0) := (hb.cell (World.block_lt_of_cell? w5 _ hl5)).trans hl5
    have n0_ := Aside0.mk (below_step HB.out hb)
    clear HB
    have HB := n0_
    clear n0_
    obtain ⟨g, cap, rfl, hg5, hg6, _⟩ := Kd.R_form hR HY.out.1
    have HRR := Aside0.mk (Kd.own_of_R hR)
    have HG5 := Aside0.mk hg5
    have HL6 := Aside0.mk hl6
    clear hR hb hl5 hg5 hg6 hl6
    go_wp2_with fail
    have hp : 0 < l0.length := by
      have h0 := HY.out.2.2 _ (List.getElem_mem HY.out.1)
      omega
    have hAL : ∀ ad, A0 = some ad → 0 < l0.length → ad.block ≠ g := by
      intro ad e hp
      obtain ⟨ad', e', hc, _⟩ := at_T36 HR0.out 0 (by omega) (by omega)
      obtain rfl : ad = ad' := by rw [e] at e'; injection e'
      have h0 := World.block_lt_of_cell? w _ hc
      rw [add_block] at h0
      have h1 := LT.out
      have h2 := HG5.out
      omega
    have hbl : w.heap.size ≠ g := by
      have h1 := LT.out
      have h2 := HG5.out
      omega
    have eg : ∀ args w, (callFunc 53 args).run Try.prog w = .ok (.enter 53 args) w := fun args w => enters_ Try.func53 (by kernel_rfl) rfl args w
    have hcon := Any.insertionSortCmpFunc_one insLays (encB l0.length) (fun _ => rfl) (cfB l0) 53 #[.pointer (some ⟨w.heap.size, 0, none⟩)] g 0 cap 0 y.length y.toArray w6 eg
      (brCmp l0 A0 c0 w.heap.size g y.toArray.size w6 HL6.out (Kd.C_below HR0.out HB.out) hp hbl hAL) (br_holds HRR.out HY.out.2.2) (Nat.zero_le _) (by simp) (by have := HY.out.2.1; simp only [List.size_toArray]; omega)
    change Calls Try.prog 65 #[.slice (some ⟨g, 0, none⟩) y.length cap, .int .i64 0, .int .i64 y.length, .func (.func 53) #[] #[.pointer (some ⟨w.heap.size, 0, none⟩)]] w6 _ at hcon
    refine (br52 g y.length cap w.heap.size w6 _ HY.out.2.1 hcon).mono ?_
    rintro e w7 ⟨rfl, q, hw7⟩
    have HQ := Aside0.mk hw7
    clear hw7 hcon eg hbl hAL hp
    go_wp2
    go_ret
    refine ⟨_, rfl, ?_, ?_⟩
    · rw [HQ.out, ← HS.out]
      have hsz : (Go.Sort.insertionSort (ltOf (cfB l0)) y.toArray 0 y.length).toList.length = y.length := by
        rw [Array.length_toList]
        exact (size_insOuter _ 0 y.length _ 1 y.toArray rfl).trans (by simp)
      have ho := br_row (m := l0.length) (q := q) hsz HRR.out
      rw [Array.toArray_toList] at ho
      exact Kd.R_lower (Kd.R_of_own ho (fun _ _ => trivial)) (by have h1 := LT.out; omega)
    · rw [HQ.out]
      exact below_row HB.out (by have h1 := LT.out; have h2 := HG5.out; omega)

/-! ### laws_sameInts: function 28 -/
def laws_sameInts.l0 : Nat → List Int → List Int → Int → Option (Bool)
  | 0, _, _, _ => none
  | k + 1, x0, x1, x5 => if x5 < (x0.length : Int) then (if 0 ≤ x5 then (if x5 < (x1.length : Int) then (if (rd x0 x5) = (rd x1 x5) then (laws_sameInts.l0 k x0 x1 (wrap64 (x5 + 1))) else (some false)) else (none)) else (none)) else (some true)
def laws_sameInts.f (k : Nat) (l0 : List Int) (l1 : List Int) : Option (Bool) := if (l0.length : Int) = (l1.length : Int) then (laws_sameInts.l0 k l0 l1 0) else (some false)
theorem laws_sameInts.mono_l : ∀ k, (∀ y0 y1 y2, LeO (laws_sameInts.l0 k y0 y1 y2) (laws_sameInts.l0 (k + 1) y0 y1 y2))
  | 0 => fun _ _ _ r h => by simp [laws_sameInts.l0] at h
  | k + 1 => by
    have ih0 := laws_sameInts.mono_l k
    · intro y0 y1 y2
      unfold laws_sameInts.l0
      repeat' first
      | (with_reducible exact ih0 _ _ _)
      | (with_reducible exact LeO.refl _)
      | (with_reducible exact LeO.none _)
      | (with_reducible refine LeO.ite ?_ ?_)
      | (with_reducible refine LeO.bind ?_ (fun _ => ?_))
      | exact ih0 _ _ _
      | exact LeO.none _
      | refine LeO.ite ?_ ?_
      | refine LeO.bind ?_ (fun _ => ?_)
theorem laws_sameInts.mono : ∀ a0 a1 k, LeO (laws_sameInts.f k a0 a1) (laws_sameInts.f (k + 1) a0 a1) := by
  intro a0 a1 k
  have ih0 := laws_sameInts.mono_l k
  unfold laws_sameInts.f
  repeat' first
      | (with_reducible exact ih0 _ _ _)
      | (with_reducible exact LeO.refl _)
      | (with_reducible exact LeO.none _)
      | (with_reducible refine LeO.ite ?_ ?_)
      | (with_reducible refine LeO.bind ?_ (fun _ => ?_))
      | exact ih0 _ _ _
      | exact LeO.none _
      | refine LeO.ite ?_ ?_
      | refine LeO.bind ?_ (fun _ => ?_)
set_option maxHeartbeats 8000000 in
set_option maxRecDepth 100000 in
theorem laws_sameInts.calls (k : Nat) (A0 : Option Addr) (c0 : Nat) (l0 : List Int) (A1 : Option Addr) (c1 : Nat) (l1 : List Int) (r : Bool) (w : World) (hr0 : Kd.C (Kd.int .i64) w A0 l0.length l0) (hc0 : l0.length ≤ c0) (hr1 : Kd.C (Kd.int .i64) w A1 l1.length l1) (hc1 : l1.length ≤ c1) (h : laws_sameInts.f k l0 l1 = some r) :
    Calls Try.prog 28 #[.slice A0 l0.length c0, .slice A1 l1.length c1] w fun e w' => e = .returned (.bool r) ∧ Drawn0 w w' := by
  have HR0 := Aside0.mk hr0
  have HC0 := Aside0.mk hc0
  clear hr0 hc0
  have HR1 := Aside0.mk hr1
  have HC1 := Aside0.mk hc1
  clear hr1 hc1
  have H : (if (l0.length : Int) = (l1.length : Int) then (laws_sameInts.l0 k l0 l1 0) else (some false)) = some r := h
  clear h
  by_cases c3 : (l0.length : Int) = (l1.length : Int)
  · rw [if_pos c3] at H
    have c3b0 : ((l0.length : Int) == (l1.length : Int)) = true := beq_iff_eq.mpr c3
    have c3b1 : ((l0.length : Int) != (l1.length : Int)) = false := bne_eq_false_iff_eq.mpr c3
    have c3b2 : (l0.length == l1.length) = true := by first | simpa using c3 | (simp at c3 ⊢; omega)
    clear c3
    have H' := Aside0.mk H
    clear H
    go_enter Try.func28, Try.ntmps28
    go_wp2
    repeat (go_quiet (fail); try go_wp2)
    go_loopg [5] k (fun kq v5 w' => ∃ (x5_1 : Int), v5 = .int .i64 x5_1 ∧ Aside0 (laws_sameInts.l0 kq l0 l1 x5_1 = some r) ∧ Aside0 (kq ≤ k) ∧ Drawn0 w w')
    case atStart => exact ⟨(0), (by first | rfl | (simp; done) | (simp [*]; done)), H', ⟨Nat.le_refl _⟩, by repeat (first | exact Drawn0.refl _ | apply Drawn0.step)⟩
    case round =>
      clear H'
      try clear c1
      try clear c2
      try clear p2
      try clear c3
      try clear c3b0
      try clear c3b1
      try clear c3b2
      obtain ⟨x5_1, rfl, HA, HK1, ⟨m1, rfl⟩⟩ := hrel
      cases gk with
      | zero => exact absurd HA.out (by simp [laws_sameInts.l0])
      | succ k1 =>
        have H := HA.out
        clear HA
        simp only [laws_sameInts.l0] at H
        by_cases c4 : x5_1 < (l0.length : Int)
        · rw [if_pos c4] at H
          have c4b0 : decide (x5_1 < (l0.length : Int)) = true := decide_eq_true c4
          clear c4
          by_cases c5 : 0 ≤ x5_1
          · rw [if_pos c5] at H
            have c5b0 : decide (0 ≤ x5_1) = true := decide_eq_true c5
            clear c5
            by_cases c6 : x5_1 < (l1.length : Int)
            · rw [if_pos c6] at H
              have c6b0 : decide (x5_1 < (l1.length : Int)) = true := decide_eq_true c6
              clear c6
              by_cases c7 : (rd l0 x5_1) = (rd l1 x5_1)
              · rw [if_pos c7] at H
                have c7b0 : ((rd l0 x5_1) == (rd l1 x5_1)) = true := beq_iff_eq.mpr c7
                have c7b1 : ((rd l0 x5_1) != (rd l1 x5_1)) = false := bne_eq_false_iff_eq.mpr c7
                clear c7
                have H' := Aside0.mk H
                clear H
                have p169 : 0 ≤ (x5_1 : Int) := of_decide_eq_true (by first | (with_reducible assumption) | assumption)
                have q169 : x5_1 < (l0.length : Int) := of_decide_eq_true (by first | (with_reducible assumption) | assumption)
                obtain ⟨ad169, e169, hx169_0⟩ := Kd.at_int HR0.out x5_1 p169 q169
                cases e169
                replace p169 := eq_true p169
                replace q169 := eq_true q169
                have p170 : 0 ≤ (x5_1 : Int) := of_decide_eq_true (by first | (with_reducible assumption) | assumption)
                have q170 : x5_1 < (l1.length : Int) := of_decide_eq_true (by first | (with_reducible assumption) | assumption)
                obtain ⟨ad170, e170, hx170_0⟩ := Kd.at_int HR1.out x5_1 p170 q170
                cases e170
                replace p170 := eq_true p170
                replace q170 := eq_true q170
                go_wp2
                repeat (go_quiet (fail); try go_wp2)
                go_roundg k1
                case measure => have := HK1.out; omega
                case rel => exact ⟨(wrap64 (x5_1 + 1)), (by first | rfl | (simp; done) | (simp [*]; done)), H', ⟨by have := HK1.out; omega⟩, by repeat (first | exact Drawn0.refl _ | apply Drawn0.step)⟩
              · rw [if_neg c7] at H
                have c7b0 : ((rd l0 x5_1) == (rd l1 x5_1)) = false := beq_eq_false_iff_ne.mpr c7
                have c7b1 : ((rd l0 x5_1) != (rd l1 x5_1)) = true := bne_iff_ne.mpr c7
                obtain rfl := Option.some.inj H
                have p169 : 0 ≤ (x5_1 : Int) := of_decide_eq_true (by first | (with_reducible assumption) | assumption)
                have q169 : x5_1 < (l0.length : Int) := of_decide_eq_true (by first | (with_reducible assumption) | assumption)
                obtain ⟨ad169, e169, hx169_0⟩ := Kd.at_int HR0.out x5_1 p169 q169
                cases e169
                replace p169 := eq_true p169
                replace q169 := eq_true q169
                have p170 : 0 ≤ (x5_1 : Int) := of_decide_eq_true (by first | (with_reducible assumption) | assumption)
                have q170 : x5_1 < (l1.length : Int) := of_decide_eq_true (by first | (with_reducible assumption) | assumption)
                obtain ⟨ad170, e170, hx170_0⟩ := Kd.at_int HR1.out x5_1 p170 q170
                cases e170
                replace p170 := eq_true p170
                replace q170 := eq_true q170
                go_wp2
                repeat (go_quiet (fail); try go_wp2)
                go_ret
                exact ⟨by first | rfl | (simp; done) | (simp [*]; done), by repeat (first | exact Drawn0.refl _ | apply Drawn0.step)⟩
            · rw [if_neg c6] at H
              exact absurd H (by simp)
          · rw [if_neg c5] at H
            exact absurd H (by simp)
        · rw [if_neg c4] at H
          have c4b0 : decide (x5_1 < (l0.length : Int)) = false := decide_eq_false c4
          clear c4
          obtain rfl := Option.some.inj H
          go_wp2
          repeat (go_quiet (fail); try go_wp2)
          go_ret
          exact ⟨by first | rfl | (simp; done) | (simp [*]; done), by repeat (first | exact Drawn0.refl _ | apply Drawn0.step)⟩
  · rw [if_neg c3] at H
    have c3b0 : ((l0.length : Int) == (l1.length : Int)) = false := beq_eq_false_iff_ne.mpr c3
    have c3b1 : ((l0.length : Int) != (l1.length : Int)) = true := bne_iff_ne.mpr c3
    have c3b2 : (l0.length == l1.length) = false := by first | simpa using c3 | (simp at c3 ⊢; omega)
    obtain rfl := Option.some.inj H
    go_enter Try.func28, Try.ntmps28
    go_wp2
    repeat (go_quiet (fail); try go_wp2)
    go_ret
    exact ⟨by first | rfl | (simp; done) | (simp [*]; done), by repeat (first | exact Drawn0.refl _ | apply Drawn0.step)⟩

/-! ### spec_l1In: function 44 -/
def spec_l1In.f (a0 : Int) (a1 : Int) (a2 : Int) : Option (Bool) := if a0 ≥ a1 then (some (decide (a0 ≤ a2))) else (some false)
set_option maxHeartbeats 8000000 in
set_option maxRecDepth 100000 in
theorem spec_l1In.calls (a0 : Int) (a1 : Int) (a2 : Int) (r : Bool) (w : World) (h : spec_l1In.f a0 a1 a2 = some r) :
    Calls Try.prog 44 #[.int .i64 a0, .int .i64 a1, .int .i64 a2] w fun e w' => e = .returned (.bool r) ∧ Drawn0 w w' := by
  have H : (if a0 ≥ a1 then (some (decide (a0 ≤ a2))) else (some false)) = some r := h
  clear h
  by_cases c4 : a0 ≥ a1
  · rw [if_pos c4] at H
    have c4b0 : decide (a1 ≤ a0) = true := decide_eq_true c4
    clear c4
    obtain rfl := Option.some.inj H
    go_enter Try.func44, Try.ntmps44
    go_wp2
    go_ret
    exact ⟨by first | rfl | (simp; done) | (simp [*]; done), by repeat (first | exact Drawn0.refl _ | apply Drawn0.step)⟩
  · rw [if_neg c4] at H
    have c4b0 : decide (a1 ≤ a0) = false := decide_eq_false c4
    clear c4
    obtain rfl := Option.some.inj H
    go_enter Try.func44, Try.ntmps44
    go_wp2
    go_ret
    exact ⟨by first | rfl | (simp; done) | (simp [*]; done), by repeat (first | exact Drawn0.refl _ | apply Drawn0.step)⟩

/-! ### spec_TasksOk: function 20 -/
def spec_TasksOk.l0 : Nat → List (S36) → Int → Option (Bool)
  | 0, _, _ => none
  | k + 1, x0, x3 => if x3 < (x0.length : Int) then (if 0 ≤ x3 then ((spec_l1In.f ((rd_T36 x0 x3).f0) 1 9).bind fun t173 => (if t173 = true then ((spec_l1In.f ((rd_T36 x0 x3).f1) 0 9).bind fun t175 => (if t175 = true then (spec_TasksOk.l0 k x0 (wrap64 (x3 + 1))) else (some false))) else (some false))) else (none)) else ((spec_l1In.f (x0.length : Int) 1 6).bind fun t171 => (some t171))
def spec_TasksOk.f (k : Nat) (l0 : List (S36)) : Option (Bool) := spec_TasksOk.l0 k l0 0
theorem spec_TasksOk.mono_l : ∀ k, (∀ y0 y1, LeO (spec_TasksOk.l0 k y0 y1) (spec_TasksOk.l0 (k + 1) y0 y1))
  | 0 => fun _ _ r h => by simp [spec_TasksOk.l0] at h
  | k + 1 => by
    have ih0 := spec_TasksOk.mono_l k
    · intro y0 y1
      unfold spec_TasksOk.l0
      repeat' first
      | (with_reducible exact ih0 _ _)
      | (with_reducible exact LeO.refl _)
      | (with_reducible exact LeO.none _)
      | (with_reducible refine LeO.ite ?_ ?_)
      | (with_reducible refine LeO.bind ?_ (fun _ => ?_))
      | exact ih0 _ _
      | exact LeO.none _
      | refine LeO.ite ?_ ?_
      | refine LeO.bind ?_ (fun _ => ?_)
theorem spec_TasksOk.mono : ∀ a0 k, LeO (spec_TasksOk.f k a0) (spec_TasksOk.f (k + 1) a0) := by
  intro a0 k
  have ih0 := spec_TasksOk.mono_l k
  unfold spec_TasksOk.f
  repeat' first
      | (with_reducible exact ih0 _ _)
      | (with_reducible exact LeO.refl _)
      | (with_reducible exact LeO.none _)
      | (with_reducible refine LeO.ite ?_ ?_)
      | (with_reducible refine LeO.bind ?_ (fun _ => ?_))
      | exact ih0 _ _
      | exact LeO.none _
      | refine LeO.ite ?_ ?_
      | refine LeO.bind ?_ (fun _ => ?_)
set_option maxHeartbeats 8000000 in
set_option maxRecDepth 100000 in
theorem spec_TasksOk.calls (k : Nat) (A0 : Option Addr) (c0 : Nat) (l0 : List (S36)) (r : Bool) (w : World) (hr0 : Kd.C k36 w A0 l0.length l0) (hc0 : l0.length ≤ c0) (h : spec_TasksOk.f k l0 = some r) :
    Calls Try.prog 20 #[.slice A0 l0.length c0] w fun e w' => e = .returned (.bool r) ∧ Drawn0 w w' := by
  have HR0 := Aside0.mk hr0
  have HC0 := Aside0.mk hc0
  clear hr0 hc0
  have H : (spec_TasksOk.l0 k l0 0) = some r := h
  clear h
  have H' := Aside0.mk H
  clear H
  go_enter Try.func20, Try.ntmps20
  go_wp2
  go_loopg [3] k (fun kq v3 w' => ∃ (x3_1 : Int), v3 = .int .i64 x3_1 ∧ Aside0 (spec_TasksOk.l0 kq l0 x3_1 = some r) ∧ Aside0 (kq ≤ k) ∧ Drawn0 w w')
  case atStart => exact ⟨(0), (by first | rfl | (simp; done) | (simp [*]; done)), H', ⟨Nat.le_refl _⟩, by repeat (first | exact Drawn0.refl _ | apply Drawn0.step)⟩
  case round =>
    clear H'
    obtain ⟨x3_1, rfl, HA, HK1, ⟨m1, rfl⟩⟩ := hrel
    cases gk with
    | zero => exact absurd HA.out (by simp [spec_TasksOk.l0])
    | succ k1 =>
      have H := HA.out
      clear HA
      simp only [spec_TasksOk.l0] at H
      by_cases c2 : x3_1 < (l0.length : Int)
      · rw [if_pos c2] at H
        have c2b0 : decide (x3_1 < (l0.length : Int)) = true := decide_eq_true c2
        clear c2
        by_cases c3 : 0 ≤ x3_1
        · rw [if_pos c3] at H
          have c3b0 : decide (0 ≤ x3_1) = true := decide_eq_true c3
          clear c3
          replace H := Option.bind_eq_some_iff.mp H
          obtain ⟨t173, A40, H⟩ := H
          replace H : (if t173 = true then ((spec_l1In.f ((rd_T36 l0 x3_1).f1) 0 9).bind fun t175 => (if t175 = true then (spec_TasksOk.l0 k1 l0 (wrap64 (x3_1 + 1))) else (some false))) else (some false)) = some r := H
          have A4 := Aside0.mk A40
          clear A40
          by_cases c5 : t173 = true
          · subst c5
            have H1 : ((spec_l1In.f ((rd_T36 l0 x3_1).f1) 0 9).bind fun t175 => (if t175 = true then (spec_TasksOk.l0 k1 l0 (wrap64 (x3_1 + 1))) else (some false))) = some r := by rw [if_pos rfl] at H; exact H
            clear H
            have H := H1
            clear H1
            replace H := Option.bind_eq_some_iff.mp H
            obtain ⟨t175, A60, H⟩ := H
            replace H : (if t175 = true then (spec_TasksOk.l0 k1 l0 (wrap64 (x3_1 + 1))) else (some false)) = some r := H
            have A6 := Aside0.mk A60
            clear A60
            by_cases c7 : t175 = true
            · subst c7
              have H1 : (spec_TasksOk.l0 k1 l0 (wrap64 (x3_1 + 1))) = some r := by rw [if_pos rfl] at H; exact H
              clear H
              have H := H1
              clear H1
              have H' := Aside0.mk H
              clear H
              have p172 : 0 ≤ (x3_1 : Int) := of_decide_eq_true (by first | (with_reducible assumption) | assumption)
              have q172 : x3_1 < (l0.length : Int) := of_decide_eq_true (by first | (with_reducible assumption) | assumption)
              obtain ⟨ad172, e172, hx172_0, hx172_1⟩ := at_T36 HR0.out x3_1 p172 q172
              cases e172
              replace p172 := eq_true p172
              replace q172 := eq_true q172
              go_wp2_with (first | ((with_reducible refine gate_callee (f := 44) rfl ?_); refine goesL_ (some 15) rfl rfl Try.func44 (by kernel_rfl) rfl #[.int .i64 ((rd_T36 l0 x3_1).f0), .int .i64 1, .int .i64 9] rfl (by (try simp only [List.map_toArray, List.map_cons, List.map_nil]); first | done | rfl | (simp only [List.length_drop, List.length_take]; rfl)) ?_; (with_reducible refine (spec_l1In.calls ((rd_T36 l0 x3_1).f0) 1 9 true _ A4.out).mono ?_); rintro e w' ⟨rfl, ⟨nd, rfl⟩⟩; refine ⟨_, rfl, ?_⟩; have p174 : 0 ≤ (x3_1 : Int) := of_decide_eq_true (by first | (with_reducible assumption) | assumption); have q174 : x3_1 < (l0.length : Int) := of_decide_eq_true (by first | (with_reducible assumption) | assumption); obtain ⟨ad174, e174, hx174_0, hx174_1⟩ := at_T36 HR0.out x3_1 p174 q174; obtain rfl : ad172 = ad174 := (by injection e174); replace p174 := eq_true p174; replace q174 := eq_true q174) | (go_at_call 44; (with_reducible refine (spec_l1In.calls ((rd_T36 l0 x3_1).f1) 0 9 true _ A6.out).mono ?_); rintro e w' ⟨rfl, ⟨nd, rfl⟩⟩))
              go_roundg k1
              case measure => have := HK1.out; omega
              case rel => exact ⟨(wrap64 (x3_1 + 1)), (by first | rfl | (simp; done) | (simp [*]; done)), H', ⟨by have := HK1.out; omega⟩, by repeat (first | exact Drawn0.refl _ | apply Drawn0.step)⟩
            · replace c7 := Bool.eq_false_iff.mpr c7
              subst c7
              have H1 : (some false) = some r := by rw [if_neg (show ¬ (false = true) by decide)] at H; exact H
              clear H
              have H := H1
              clear H1
              obtain rfl := Option.some.inj H
              have p172 : 0 ≤ (x3_1 : Int) := of_decide_eq_true (by first | (with_reducible assumption) | assumption)
              have q172 : x3_1 < (l0.length : Int) := of_decide_eq_true (by first | (with_reducible assumption) | assumption)
              obtain ⟨ad172, e172, hx172_0, hx172_1⟩ := at_T36 HR0.out x3_1 p172 q172
              cases e172
              replace p172 := eq_true p172
              replace q172 := eq_true q172
              go_wp2_with (first | ((with_reducible refine gate_callee (f := 44) rfl ?_); refine goesL_ (some 15) rfl rfl Try.func44 (by kernel_rfl) rfl #[.int .i64 ((rd_T36 l0 x3_1).f0), .int .i64 1, .int .i64 9] rfl (by (try simp only [List.map_toArray, List.map_cons, List.map_nil]); first | done | rfl | (simp only [List.length_drop, List.length_take]; rfl)) ?_; (with_reducible refine (spec_l1In.calls ((rd_T36 l0 x3_1).f0) 1 9 true _ A4.out).mono ?_); rintro e w' ⟨rfl, ⟨nd, rfl⟩⟩; refine ⟨_, rfl, ?_⟩; have p174 : 0 ≤ (x3_1 : Int) := of_decide_eq_true (by first | (with_reducible assumption) | assumption); have q174 : x3_1 < (l0.length : Int) := of_decide_eq_true (by first | (with_reducible assumption) | assumption); obtain ⟨ad174, e174, hx174_0, hx174_1⟩ := at_T36 HR0.out x3_1 p174 q174; obtain rfl : ad172 = ad174 := (by injection e174); replace p174 := eq_true p174; replace q174 := eq_true q174) | (go_at_call 44; (with_reducible refine (spec_l1In.calls ((rd_T36 l0 x3_1).f1) 0 9 false _ A6.out).mono ?_); rintro e w' ⟨rfl, ⟨nd, rfl⟩⟩))
              go_ret
              exact ⟨by first | rfl | (simp; done) | (simp [*]; done), by repeat (first | exact Drawn0.refl _ | apply Drawn0.step)⟩
          · replace c5 := Bool.eq_false_iff.mpr c5
            subst c5
            have H1 : (some false) = some r := by rw [if_neg (show ¬ (false = true) by decide)] at H; exact H
            clear H
            have H := H1
            clear H1
            obtain rfl := Option.some.inj H
            have p172 : 0 ≤ (x3_1 : Int) := of_decide_eq_true (by first | (with_reducible assumption) | assumption)
            have q172 : x3_1 < (l0.length : Int) := of_decide_eq_true (by first | (with_reducible assumption) | assumption)
            obtain ⟨ad172, e172, hx172_0, hx172_1⟩ := at_T36 HR0.out x3_1 p172 q172
            cases e172
            replace p172 := eq_true p172
            replace q172 := eq_true q172
            go_wp2_with (first | ((with_reducible refine gate_callee (f := 44) rfl ?_); refine goesL_ (some 15) rfl rfl Try.func44 (by kernel_rfl) rfl #[.int .i64 ((rd_T36 l0 x3_1).f0), .int .i64 1, .int .i64 9] rfl (by (try simp only [List.map_toArray, List.map_cons, List.map_nil]); first | done | rfl | (simp only [List.length_drop, List.length_take]; rfl)) ?_; (with_reducible refine (spec_l1In.calls ((rd_T36 l0 x3_1).f0) 1 9 false _ A4.out).mono ?_); rintro e w' ⟨rfl, ⟨nd, rfl⟩⟩; refine ⟨_, rfl, ?_⟩))
            go_ret
            exact ⟨by first | rfl | (simp; done) | (simp [*]; done), by repeat (first | exact Drawn0.refl _ | apply Drawn0.step)⟩
        · rw [if_neg c3] at H
          exact absurd H (by simp)
      · rw [if_neg c2] at H
        have c2b0 : decide (x3_1 < (l0.length : Int)) = false := decide_eq_false c2
        clear c2
        replace H := Option.bind_eq_some_iff.mp H
        obtain ⟨t171, A80, H⟩ := H
        replace H : (some t171) = some r := H
        have A8 := Aside0.mk A80
        clear A80
        obtain rfl := Option.some.inj H
        go_wp2_with (first | ((with_reducible refine gate_callee (f := 44) rfl ?_); refine goesL_ (some 28) rfl rfl Try.func44 (by kernel_rfl) rfl #[.int .i64 (l0.length : Int), .int .i64 1, .int .i64 6] rfl (by (try simp only [List.map_toArray, List.map_cons, List.map_nil]); first | done | rfl | (simp only [List.length_drop, List.length_take]; rfl)) ?_; (with_reducible refine (spec_l1In.calls (l0.length : Int) 1 6 t171 _ A8.out).mono ?_); rintro e w' ⟨rfl, ⟨nd, rfl⟩⟩; refine ⟨_, rfl, ?_⟩))
        go_ret
        exact ⟨by first | rfl | (simp; done) | (simp [*]; done), by repeat (first | exact Drawn0.refl _ | apply Drawn0.step)⟩

end Go.Proofs.Ytclodndgieefcaa.PFnByRatio
