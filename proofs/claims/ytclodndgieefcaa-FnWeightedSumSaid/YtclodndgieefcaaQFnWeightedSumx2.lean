/- Contracts of the functions that the law FnWeightedSum uses, written by a program of this session (wip/print2.py) over a turned copy of the kit's print; nothing is assumed. -/
import Derived.Test.YtclodndgieefcaaQFnWeightedSumx0
import Derived.Test.YtclodndgieefcaaQFnWeightedSumx1
namespace Go.Proofs.Ytclodndgieefcaa.PFnWeightedSum
open Go.RowKit Go.Proofs.YtclodndgieefcaaW.PrintWords Go.Proofs.YtclodndgieefcaaW.PrintLast Go.Proofs.YtclodndgieefcaaW.PrintMore
attribute [local go_sem] max2_int min2_int max_two min_two max_three min_three max_four min_four   -- for this text's walks alone
set_option linter.unusedVariables false
set_option linter.unusedSimpArgs false

/-! ### impl_weighted: function 54 -/
def impl_weighted.l0 : Nat → List (S36) → Int → Int → List Int → Int → Int → Option (Int)
  | 0, _, _, _, _, _, _ => none
  | k + 1, x0, x5, x6, x9, x10, x11 => if x11 < x10 then (if 0 ≤ x11 then (if x11 < (x9.length : Int) then (if 0 ≤ (rd x9 x11) then (if (rd x9 x11) < (x0.length : Int) then (impl_weighted.l0 k x0 (wrap64 (x5 + (wrap64 (((rd_T36 x0 (rd x9 x11)).f1) * (wrap64 (x6 + ((rd_T36 x0 (rd x9 x11)).f0))))))) (wrap64 (x6 + ((rd_T36 x0 (rd x9 x11)).f0))) x9 x10 (wrap64 (x11 + 1))) else (none)) else (none)) else (none)) else (none)) else (some x5)
def impl_weighted.f (k : Nat) (l0 : List (S36)) (l1 : List Int) : Option (Int) := impl_weighted.l0 k l0 0 0 l1 (l1.length : Int) 0
theorem impl_weighted.mono_l : ∀ k, (∀ y0 y1 y2 y3 y4 y5, LeO (impl_weighted.l0 k y0 y1 y2 y3 y4 y5) (impl_weighted.l0 (k + 1) y0 y1 y2 y3 y4 y5))
  | 0 => fun _ _ _ _ _ _ r h => by simp [impl_weighted.l0] at h
  | k + 1 => by
    have ih0 := impl_weighted.mono_l k
    · intro y0 y1 y2 y3 y4 y5
      unfold impl_weighted.l0
      repeat' first
      | (with_reducible exact ih0 _ _ _ _ _ _)
      | (with_reducible exact LeO.refl _)
      | (with_reducible exact LeO.none _)
      | (with_reducible refine LeO.ite ?_ ?_)
      | (with_reducible refine LeO.bind ?_ (fun _ => ?_))
      | exact ih0 _ _ _ _ _ _
      | exact LeO.none _
      | refine LeO.ite ?_ ?_
      | refine LeO.bind ?_ (fun _ => ?_)
theorem impl_weighted.mono : ∀ a0 a1 k, LeO (impl_weighted.f k a0 a1) (impl_weighted.f (k + 1) a0 a1) := by
  intro a0 a1 k
  have ih0 := impl_weighted.mono_l k
  unfold impl_weighted.f
  repeat' first
      | (with_reducible exact ih0 _ _ _ _ _ _)
      | (with_reducible exact LeO.refl _)
      | (with_reducible exact LeO.none _)
      | (with_reducible refine LeO.ite ?_ ?_)
      | (with_reducible refine LeO.bind ?_ (fun _ => ?_))
      | exact ih0 _ _ _ _ _ _
      | exact LeO.none _
      | refine LeO.ite ?_ ?_
      | refine LeO.bind ?_ (fun _ => ?_)
set_option maxHeartbeats 8000000 in
set_option maxRecDepth 100000 in
theorem impl_weighted.calls (k : Nat) (A0 : Option Addr) (c0 : Nat) (l0 : List (S36)) (A1 : Option Addr) (c1 : Nat) (l1 : List Int) (r : Int) (w : World) (hr0 : Kd.C k36 w A0 l0.length l0) (hc0 : l0.length ≤ c0) (hr1 : Kd.C (Kd.int .i64) w A1 l1.length l1) (hc1 : l1.length ≤ c1) (h : impl_weighted.f k l0 l1 = some r) :
    Calls Try.prog 54 #[.slice A0 l0.length c0, .slice A1 l1.length c1] w fun e w' => e = .returned (.int .i64 r) ∧ Drawn0 w w' := by
  have HR0 := Aside0.mk hr0
  have HC0 := Aside0.mk hc0
  clear hr0 hc0
  have HR1 := Aside0.mk hr1
  have HC1 := Aside0.mk hc1
  clear hr1 hc1
  have H : (impl_weighted.l0 k l0 0 0 l1 (l1.length : Int) 0) = some r := h
  clear h
  have H' := Aside0.mk H
  clear H
  go_enter Try.func54, Try.ntmps54
  go_wp2
  go_loopg [5, 6, 11] k (fun kq v5 v6 v11 w' => ∃ (x5_1 : Int) (x6_1 : Int) (x11_1 : Int), v5 = .int .i64 x5_1 ∧ v6 = .int .i64 x6_1 ∧ v11 = .int .i64 x11_1 ∧ Aside0 (impl_weighted.l0 kq l0 x5_1 x6_1 l1 (l1.length : Int) x11_1 = some r) ∧ Aside0 (kq ≤ k) ∧ Drawn0 w w')
  case atStart => exact ⟨(0), (0), (0), (by first | rfl | (simp; done) | (simp [*]; done)), (by first | rfl | (simp; done) | (simp [*]; done)), (by first | rfl | (simp; done) | (simp [*]; done)), H', ⟨Nat.le_refl _⟩, by repeat (first | exact Drawn0.refl _ | apply Drawn0.step)⟩
  case round =>
    clear H'
    try clear c1
    try clear p2
    obtain ⟨x5_1, x6_1, x11_1, rfl, rfl, rfl, HA, HK1, ⟨m1, rfl⟩⟩ := hrel
    cases gk with
    | zero => exact absurd HA.out (by simp [impl_weighted.l0])
    | succ k1 =>
      have H := HA.out
      clear HA
      simp only [impl_weighted.l0] at H
      by_cases c3 : x11_1 < (l1.length : Int)
      · rw [if_pos c3] at H
        have c3b0 : decide (x11_1 < (l1.length : Int)) = true := decide_eq_true c3
        clear c3
        by_cases c4 : 0 ≤ x11_1
        · rw [if_pos c4] at H
          have c4b0 : decide (0 ≤ x11_1) = true := decide_eq_true c4
          clear c4
          by_cases c5 : x11_1 < (l1.length : Int)
          · rw [if_pos c5] at H
            have c5b0 : decide (x11_1 < (l1.length : Int)) = true := decide_eq_true c5
            clear c5
            by_cases c6 : 0 ≤ (rd l1 x11_1)
            · rw [if_pos c6] at H
              have c6b0 : decide (0 ≤ (rd l1 x11_1)) = true := decide_eq_true c6
              clear c6
              by_cases c7 : (rd l1 x11_1) < (l0.length : Int)
              · rw [if_pos c7] at H
                have c7b0 : decide ((rd l1 x11_1) < (l0.length : Int)) = true := decide_eq_true c7
                clear c7
                have H' := Aside0.mk H
                clear H
                have p119 : 0 ≤ (x11_1 : Int) := of_decide_eq_true (by first | (with_reducible assumption) | assumption)
                have q119 : x11_1 < (l1.length : Int) := of_decide_eq_true (by first | (with_reducible assumption) | assumption)
                obtain ⟨ad119, e119, hx119_0⟩ := Kd.at_int HR1.out x11_1 p119 q119
                cases e119
                replace p119 := eq_true p119
                replace q119 := eq_true q119
                have p120 : 0 ≤ ((rd l1 x11_1) : Int) := of_decide_eq_true (by first | (with_reducible assumption) | assumption)
                have q120 : (rd l1 x11_1) < (l0.length : Int) := of_decide_eq_true (by first | (with_reducible assumption) | assumption)
                obtain ⟨ad120, e120, hx120_0, hx120_1⟩ := at_T36 HR0.out (rd l1 x11_1) p120 q120
                cases e120
                replace p120 := eq_true p120
                replace q120 := eq_true q120
                have p121 : 0 ≤ ((rd l1 x11_1) : Int) := of_decide_eq_true (by first | (with_reducible assumption) | assumption)
                have q121 : (rd l1 x11_1) < (l0.length : Int) := of_decide_eq_true (by first | (with_reducible assumption) | assumption)
                obtain ⟨ad121, e121, hx121_0, hx121_1⟩ := at_T36 HR0.out (rd l1 x11_1) p121 q121
                obtain rfl : ad120 = ad121 := (by injection e121)
                replace p121 := eq_true p121
                replace q121 := eq_true q121
                go_wp2
                go_roundg k1
                case measure => have := HK1.out; omega
                case rel => exact ⟨(wrap64 (x5_1 + (wrap64 (((rd_T36 l0 (rd l1 x11_1)).f1) * (wrap64 (x6_1 + ((rd_T36 l0 (rd l1 x11_1)).f0))))))), (wrap64 (x6_1 + ((rd_T36 l0 (rd l1 x11_1)).f0))), (wrap64 (x11_1 + 1)), (by first | rfl | (simp; done) | (simp [*]; done)), (by first | rfl | (simp; done) | (simp [*]; done)), (by first | rfl | (simp; done) | (simp [*]; done)), H', ⟨by have := HK1.out; omega⟩, by repeat (first | exact Drawn0.refl _ | apply Drawn0.step)⟩
              · rw [if_neg c7] at H
                exact absurd H (by simp)
            · rw [if_neg c6] at H
              exact absurd H (by simp)
          · rw [if_neg c5] at H
            exact absurd H (by simp)
        · rw [if_neg c4] at H
          exact absurd H (by simp)
      · rw [if_neg c3] at H
        have c3b0 : decide (x11_1 < (l1.length : Int)) = false := decide_eq_false c3
        clear c3
        obtain rfl := Option.some.inj H
        go_wp2
        go_ret
        exact ⟨by first | rfl | (simp; done) | (simp [*]; done), by repeat (first | exact Drawn0.refl _ | apply Drawn0.step)⟩

/-! ### impl_WeightedSum: function 30 -/
def impl_WeightedSum.f (k : Nat) (l0 : List (S36)) (l1 : List Int) : Option (Int) := (impl_TasksOk.f k l0).bind fun t122 => (if t122 = true then ((impl_EachOnce.f k l1 (l0.length : Int)).bind fun t123 => (if t123 = true then ((impl_weighted.f k l0 l1).bind fun t124 => (some t124)) else (some (-1)))) else (some (-1)))
theorem impl_WeightedSum.mono : ∀ a0 a1 k, LeO (impl_WeightedSum.f k a0 a1) (impl_WeightedSum.f (k + 1) a0 a1) := by
  intro a0 a1 k
  unfold impl_WeightedSum.f
  repeat' first
      | (with_reducible exact impl_EachOnce.mono _ _ _)
      | (with_reducible exact impl_TasksOk.mono _ _)
      | (with_reducible exact impl_weighted.mono _ _ _)
      | (with_reducible exact LeO.refl _)
      | (with_reducible exact LeO.none _)
      | (with_reducible refine LeO.ite ?_ ?_)
      | (with_reducible refine LeO.bind ?_ (fun _ => ?_))
      | exact impl_EachOnce.mono _ _ _
      | exact impl_TasksOk.mono _ _
      | exact impl_weighted.mono _ _ _
      | exact LeO.none _
      | refine LeO.ite ?_ ?_
      | refine LeO.bind ?_ (fun _ => ?_)
set_option maxHeartbeats 8000000 in
set_option maxRecDepth 100000 in
theorem impl_WeightedSum.calls (k : Nat) (A0 : Option Addr) (c0 : Nat) (l0 : List (S36)) (A1 : Option Addr) (c1 : Nat) (l1 : List Int) (r : Int) (w : World) (hr0 : Kd.C k36 w A0 l0.length l0) (hc0 : l0.length ≤ c0) (hr1 : Kd.C (Kd.int .i64) w A1 l1.length l1) (hc1 : l1.length ≤ c1) (h : impl_WeightedSum.f k l0 l1 = some r) :
    Calls Try.prog 30 #[.slice A0 l0.length c0, .slice A1 l1.length c1] w fun e w' => e = .returned (.int .i64 r) ∧ Below w.heap.size w w' := by
  have HR0 := Aside0.mk hr0
  have HC0 := Aside0.mk hc0
  clear hr0 hc0
  have HR1 := Aside0.mk hr1
  have HC1 := Aside0.mk hc1
  clear hr1 hc1
  have HB := Aside0.mk (Below.refl w.heap.size w)
  have H : ((impl_TasksOk.f k l0).bind fun t122 => (if t122 = true then ((impl_EachOnce.f k l1 (l0.length : Int)).bind fun t123 => (if t123 = true then ((impl_weighted.f k l0 l1).bind fun t124 => (some t124)) else (some (-1)))) else (some (-1)))) = some r := h
  clear h
  replace H := Option.bind_eq_some_iff.mp H
  obtain ⟨t122, A30, H⟩ := H
  replace H : (if t122 = true then ((impl_EachOnce.f k l1 (l0.length : Int)).bind fun t123 => (if t123 = true then ((impl_weighted.f k l0 l1).bind fun t124 => (some t124)) else (some (-1)))) else (some (-1))) = some r := H
  have A3 := Aside0.mk A30
  clear A30
  by_cases c4 : t122 = true
  · subst c4
    have H1 : ((impl_EachOnce.f k l1 (l0.length : Int)).bind fun t123 => (if t123 = true then ((impl_weighted.f k l0 l1).bind fun t124 => (some t124)) else (some (-1)))) = some r := by rw [if_pos rfl] at H; exact H
    clear H
    have H := H1
    clear H1
    replace H := Option.bind_eq_some_iff.mp H
    obtain ⟨t123, A50, H⟩ := H
    replace H : (if t123 = true then ((impl_weighted.f k l0 l1).bind fun t124 => (some t124)) else (some (-1))) = some r := H
    have A5 := Aside0.mk A50
    clear A50
    by_cases c6 : t123 = true
    · subst c6
      have H1 : ((impl_weighted.f k l0 l1).bind fun t124 => (some t124)) = some r := by rw [if_pos rfl] at H; exact H
      clear H
      have H := H1
      clear H1
      replace H := Option.bind_eq_some_iff.mp H
      obtain ⟨t124, A70, H⟩ := H
      replace H : (some t124) = some r := H
      have A7 := Aside0.mk A70
      clear A70
      obtain rfl := Option.some.inj H
      go_enter Try.func30, Try.ntmps30
      go_wp2_with (first | ((with_reducible refine gate_callee (f := 22) rfl ?_); refine goesL_ (some 6) rfl rfl Try.func22 (by kernel_rfl) rfl #[.slice A0 l0.length c0] rfl (by (try simp only [List.map_toArray, List.map_cons, List.map_nil]); first | done | rfl | (simp only [List.length_drop, List.length_take]; rfl)) ?_; (with_reducible refine (impl_TasksOk.calls k _ _ l0 true _ ?side1 ?side2 A3.out).mono ?_); (case side1 => repeat (first | exact HR0.out | (with_reducible refine Kd.C_alloc ?_ _) | (with_reducible refine Kd.C_drewN ?_ _) | (with_reducible refine Kd.C_drew ?_))); (case side2 => exact HC0.out); rintro e w8 ⟨rfl, hb⟩; refine ⟨_, rfl, ?_⟩; have n0_ := Aside0.mk (below_step (by repeat (first | (with_reducible first | exact HB.out | apply below_alloc | apply pw_below_drewN | apply below_drew1) | exact HB.out)) hb); clear HB; have HB := n0_; clear n0_; (try clear hb); (try clear hb2); (try clear hk); (try clear hi)) | (go_at_call 17; (with_reducible refine (impl_EachOnce.calls k _ _ l1 (l0.length : Int) true _ ?side1 ?side2 A5.out).mono ?_); (case side1 => repeat (first | exact (Kd.C_below HR1.out HB.out) | (with_reducible refine Kd.C_alloc ?_ _) | (with_reducible refine Kd.C_drewN ?_ _) | (with_reducible refine Kd.C_drew ?_))); (case side2 => exact HC1.out); rintro e w' ⟨rfl, ⟨nd, rfl⟩⟩) | ((with_reducible refine gate_callee (f := 54) rfl ?_); refine goesL_ (some 17) rfl rfl Try.func54 (by kernel_rfl) rfl #[.slice A0 l0.length c0, .slice A1 l1.length c1] rfl (by (try simp only [List.map_toArray, List.map_cons, List.map_nil]); first | done | rfl | (simp only [List.length_drop, List.length_take]; rfl)) ?_; (with_reducible refine (impl_weighted.calls k _ _ l0 _ _ l1 t124 _ ?side1 ?side2 ?side3 ?side4 A7.out).mono ?_); (case side1 => repeat (first | exact (Kd.C_below HR0.out (by repeat (first | (with_reducible first | exact HB.out | apply below_alloc | apply pw_below_drewN | apply below_drew1) | exact HB.out))) | (with_reducible refine Kd.C_alloc ?_ _) | (with_reducible refine Kd.C_drewN ?_ _) | (with_reducible refine Kd.C_drew ?_))); (case side2 => exact HC0.out); (case side3 => repeat (first | exact (Kd.C_below HR1.out (by repeat (first | (with_reducible first | exact HB.out | apply below_alloc | apply pw_below_drewN | apply below_drew1) | exact HB.out))) | (with_reducible refine Kd.C_alloc ?_ _) | (with_reducible refine Kd.C_drewN ?_ _) | (with_reducible refine Kd.C_drew ?_))); (case side4 => exact HC1.out); rintro e w' ⟨rfl, ⟨nd, rfl⟩⟩; refine ⟨_, rfl, ?_⟩))
      go_ret
      exact ⟨by first | rfl | (simp [errW_none, errW_some] <;> rfl) | (simp [*, errW_none, errW_some] <;> rfl), by repeat (first | (with_reducible first | exact HB.out | apply below_alloc | apply pw_below_drewN | apply below_drew1) | exact HB.out)⟩
    · replace c6 := Bool.eq_false_iff.mpr c6
      subst c6
      have H1 : (some (-1)) = some r := by rw [if_neg (show ¬ (false = true) by decide)] at H; exact H
      clear H
      have H := H1
      clear H1
      obtain rfl := Option.some.inj H
      go_enter Try.func30, Try.ntmps30
      go_wp2_with (first | ((with_reducible refine gate_callee (f := 22) rfl ?_); refine goesL_ (some 6) rfl rfl Try.func22 (by kernel_rfl) rfl #[.slice A0 l0.length c0] rfl (by (try simp only [List.map_toArray, List.map_cons, List.map_nil]); first | done | rfl | (simp only [List.length_drop, List.length_take]; rfl)) ?_; (with_reducible refine (impl_TasksOk.calls k _ _ l0 true _ ?side1 ?side2 A3.out).mono ?_); (case side1 => repeat (first | exact HR0.out | (with_reducible refine Kd.C_alloc ?_ _) | (with_reducible refine Kd.C_drewN ?_ _) | (with_reducible refine Kd.C_drew ?_))); (case side2 => exact HC0.out); rintro e w9 ⟨rfl, hb⟩; refine ⟨_, rfl, ?_⟩; have n0_ := Aside0.mk (below_step (by repeat (first | (with_reducible first | exact HB.out | apply below_alloc | apply pw_below_drewN | apply below_drew1) | exact HB.out)) hb); clear HB; have HB := n0_; clear n0_; (try clear hb); (try clear hb2); (try clear hk); (try clear hi)) | (go_at_call 17; (with_reducible refine (impl_EachOnce.calls k _ _ l1 (l0.length : Int) false _ ?side1 ?side2 A5.out).mono ?_); (case side1 => repeat (first | exact (Kd.C_below HR1.out HB.out) | (with_reducible refine Kd.C_alloc ?_ _) | (with_reducible refine Kd.C_drewN ?_ _) | (with_reducible refine Kd.C_drew ?_))); (case side2 => exact HC1.out); rintro e w' ⟨rfl, ⟨nd, rfl⟩⟩))
      go_ret
      exact ⟨by first | rfl | (simp [errW_none, errW_some] <;> rfl) | (simp [*, errW_none, errW_some] <;> rfl), by repeat (first | (with_reducible first | exact HB.out | apply below_alloc | apply pw_below_drewN | apply below_drew1) | exact HB.out)⟩
  · replace c4 := Bool.eq_false_iff.mpr c4
    subst c4
    have H1 : (some (-1)) = some r := by rw [if_neg (show ¬ (false = true) by decide)] at H; exact H
    clear H
    have H := H1
    clear H1
    obtain rfl := Option.some.inj H
    go_enter Try.func30, Try.ntmps30
    go_wp2_with (first | ((with_reducible refine gate_callee (f := 22) rfl ?_); refine goesL_ (some 6) rfl rfl Try.func22 (by kernel_rfl) rfl #[.slice A0 l0.length c0] rfl (by (try simp only [List.map_toArray, List.map_cons, List.map_nil]); first | done | rfl | (simp only [List.length_drop, List.length_take]; rfl)) ?_; (with_reducible refine (impl_TasksOk.calls k _ _ l0 false _ ?side1 ?side2 A3.out).mono ?_); (case side1 => repeat (first | exact HR0.out | (with_reducible refine Kd.C_alloc ?_ _) | (with_reducible refine Kd.C_drewN ?_ _) | (with_reducible refine Kd.C_drew ?_))); (case side2 => exact HC0.out); rintro e w10 ⟨rfl, hb⟩; refine ⟨_, rfl, ?_⟩; have n0_ := Aside0.mk (below_step (by repeat (first | (with_reducible first | exact HB.out | apply below_alloc | apply pw_below_drewN | apply below_drew1) | exact HB.out)) hb); clear HB; have HB := n0_; clear n0_; (try clear hb); (try clear hb2); (try clear hk); (try clear hi)))
    go_ret
    exact ⟨by first | rfl | (simp [errW_none, errW_some] <;> rfl) | (simp [*, errW_none, errW_some] <;> rfl), by repeat (first | (with_reducible first | exact HB.out | apply below_alloc | apply pw_below_drewN | apply below_drew1) | exact HB.out)⟩

-- NOT PRINTED: function 55 (impl_orders)

/-! ### slices_Clone_int_int: function 59 -/
def slices_Clone_int_int.f (l0 : List Int) : Option (List Int) := if l0.length < 17592186044416 then (some l0) else (none)
set_option maxHeartbeats 8000000 in
set_option maxRecDepth 100000 in
theorem slices_Clone_int_int.calls (A0 : Option Addr) (c0 : Nat) (l0 : List Int) (r : List Int) (w : World) (hr0 : Kd.C (Kd.int .i64) w A0 l0.length l0) (hc0 : l0.length ≤ c0) (h : slices_Clone_int_int.f l0 = some r) :
    Calls Try.prog 59 #[.slice A0 l0.length c0] w fun e w' => ∃ v0_ : Value, e = .returned (v0_) ∧ Kd.R (Kd.int .i64) 3 w' w.heap.size (fun _ => True) v0_ r ∧ Below w.heap.size w w' := by
  have HR0 := Aside0.mk hr0
  have HC0 := Aside0.mk hc0
  clear hr0 hc0
  have HB := Aside0.mk (Below.refl w.heap.size w)
  have H : (if l0.length < 17592186044416 then (some l0) else (none)) = some r := h
  clear h
  by_cases c7 : l0.length < 17592186044416
  · rw [if_pos c7] at H
    have LMc7 := Aside0.mk c7
    clear c7
    obtain rfl := Option.some.inj H
    cases A0 with
    | none =>
      have hnl := fun W : World => Lib.run_eql_slice_nil (P := Try.prog) W 22 3 none l0.length c0 0 0 Try.underlying22
      have z : l0 = [] := by
        rcases Nat.eq_zero_or_pos l0.length with z | z
        · exact List.eq_nil_of_length_eq_zero z
        · obtain ⟨ad, e, _⟩ := HR0.out.2.2 z
          cases e
      have Z := Aside0.mk z
      clear z
      go_enter Try.func59, Try.ntmps59
      go_wp2
      go_ret
      exact ⟨_, rfl, by rw [Z.out]; exact Kd.R_nil _ _ _ _ _, HB.out⟩
    | some ad0 =>
      have hnl := fun W : World => Lib.run_eql_slice_nil (P := Try.prog) W 22 3 (some ad0) l0.length c0 0 0 Try.underlying22
      obtain ⟨y126, hy126⟩ : ∃ y_ : List Int, y_ = (([] : List Int)) := ⟨_, rfl⟩
      have Ny126 := Aside0.mk hy126
      clear hy126
      go_enter Try.func59, Try.ntmps59
      go_wp2_with (first | ((with_reducible refine gate_dst (N := 5) rfl ?_); (try (refine gate_guard (by rfl) ?_; dsimp only)); refine Kd.R_lit (Kd.int .i64) _ 3 ?hg (N := 5) ?hd (xs := ([] : List Int)) (inner := []) (ok := fun _ => True) (okp := fun _ => True) ?hr ?hp (fun _ hk => hk) trivial (Below.refl _ _) (Nat.le_refl _) (by simp) ?_; (case hd => rfl); (case hg => rfl); (case hr => first | (go_simp; done) | (go_simp; rfl)); (case hp => exact (Reps.none _ _)); intro v127 w15 ho16 hb hg_ hnew_; clear hg_ hnew_; (first | rw [← Ny126.out] at ho16 | (simp only [Int.reduceToNat] at ho16; rw [← Ny126.out] at ho16)); have n0_ := Aside0.mk (Kd.R_lower ho16 (below_size (by repeat (first | (with_reducible first | exact HB.out | apply below_alloc | apply pw_below_drewN | apply below_drew1) | exact HB.out)))); have n1_ := Aside0.mk (below_step (by repeat (first | (with_reducible first | exact HB.out | apply below_alloc | apply pw_below_drewN | apply below_drew1) | exact HB.out)) hb); clear HB; have HO128 := n0_; have HB := n1_; clear n0_ n1_; clear hb ho16) | ((with_reducible refine gate_builtin (b := .append) (xs := #[.tmp 5, .tmp 6]) rfl ?_); (try (refine gate_guard (by rfl) ?_; dsimp only)); at_builtin; refine Kd.R_append_rows (Kd.int .i64) (w0 := w) w.heap.size rfl (.tmp 5) (.tmp 6) 22 3 (.int .i64 0) 8 rfl Try.underlying22 info3 rfl (by decide) (by omega) v127 y126 l0 _ _ _ (fun _ => True) (fun _ => False) rfl rfl ?aO ?aR (fun _ _ h => h) (fun _ h => h.elim) ?aF ?aB ?aS ?aL ?_; (case aR => repeat (first | exact (Kd.C_below HR0.out HB.out) | (with_reducible refine Kd.C_alloc ?_ _) | (with_reducible refine Kd.C_drewN ?_ _) | (with_reducible refine Kd.C_drew ?_))); (case aB => exact (by repeat (first | (with_reducible first | exact HB.out | apply below_alloc | apply pw_below_drewN | apply below_drew1) | exact HB.out))); (case aF => exact (fun _ _ => trivial)); (case aO => exact (by (with_reducible repeat (first | apply Kd.R_alloc | apply Kd.R_drewN | apply Kd.R_drew)); exact HO128.out)); (case aS => exact (below_size (by repeat (first | (with_reducible first | exact HB.out | apply below_alloc | apply pw_below_drewN | apply below_drew1) | exact HB.out)))); (case aL => have := LMc7.out; have := Ny126.out; subst this; simp only [List.length_nil]; omega); intro v130 w17 ho hb hg hat; (have ny_ := Ny126.out; subst ny_); rw [List.nil_append] at ho; have n0_ := Aside0.mk (hb); have n1_ := Aside0.mk (ho); clear HB; clear HO128; have HB := n0_; have HO131 := n1_; clear n0_ n1_; clear ho hb hg hat))
      go_ret
      exact ⟨_, rfl, HO131.out, HB.out⟩
  · rw [if_neg c7] at H
    exact absurd H (by simp)

/-! ### impl_LeastWeighted: function 31, with orders (55), its closure (64), LeastWeighted's (56) -/
set_option maxHeartbeats 8000000 in
set_option maxRecDepth 100000 in
theorem lw56 (k : Nat) (l : List S36) (o : List Int) (v n : Int) (AL AO : Option Addr) (cl co bl bv : Nat) (w : World)
    (hl : w.cell? ⟨bl, 0, none⟩ = some (.slice AL l.length cl)) (hcl : l.length ≤ cl) (hC : Kd.C k36 w AL l.length l) (hO : Kd.C (Kd.int .i64) w AO o.length o) (hco : o.length ≤ co)
    (hv : w.cell? ⟨bv, 0, none⟩ = some (.int .i64 v)) (hf : w.frozen? ⟨bv, 0, none⟩ = false) (h : impl_weighted.f k l o = some n) :
    Calls Try.prog 56 #[.slice AO o.length co, .pointer (some ⟨bl, 0, none⟩), .pointer (some ⟨bv, 0, none⟩)] w fun e w' => e = .returned (.tuple #[]) ∧ ∃ m, w' = (if v < 0 ∨ n < v then (w.drewN m).setCell ⟨bv, 0, none⟩ (.int .i64 n) else w.drewN m) := by
  have HC := Aside0.mk hC
  have HO := Aside0.mk hO
  have H := Aside0.mk h
  have HCL := Aside0.mk hcl
  have HCO := Aside0.mk hco
  clear hC hO h hcl hco
  by_cases c1 : v < 0
  · have d1 : decide (v < 0) = true := decide_eq_true c1
    go_enter Try.func56, Try.ntmps56
    go_wp2_with (first | (go_at_call 54; (with_reducible refine (impl_weighted.calls k _ _ l _ _ o n _ ?side1 ?side2 ?side3 ?side4 H.out).mono ?_); (case side1 => exact HC.out); (case side2 => exact HCL.out); (case side3 => exact HO.out); (case side4 => exact HCO.out); rintro e w5 ⟨rfl, hb⟩; obtain ⟨⟨m, hm⟩⟩ := hb; have hv5 : w5.cell? { block := bv, off := 0 } = some (.int .i64 v) := (by rw [hm]; exact hv); have hf5 : w5.frozen? { block := bv, off := 0 } = false := (by rw [hm]; exact hf); have HM := Aside0.mk hm; clear hm))
    go_end0
    exact ⟨rfl, m, by simp [c1, HM.out]⟩
  · have d1 : decide (v < 0) = false := decide_eq_false c1
    by_cases c2 : n < v
    · have d2 : decide (n < v) = true := decide_eq_true c2
      go_enter Try.func56, Try.ntmps56
      go_wp2_with (first | (go_at_call 54; (with_reducible refine (impl_weighted.calls k _ _ l _ _ o n _ ?side1 ?side2 ?side3 ?side4 H.out).mono ?_); (case side1 => exact HC.out); (case side2 => exact HCL.out); (case side3 => exact HO.out); (case side4 => exact HCO.out); rintro e w5 ⟨rfl, hb⟩; obtain ⟨⟨m, hm⟩⟩ := hb; have hv5 : w5.cell? { block := bv, off := 0 } = some (.int .i64 v) := (by rw [hm]; exact hv); have hf5 : w5.frozen? { block := bv, off := 0 } = false := (by rw [hm]; exact hf); have HM := Aside0.mk hm; clear hm))
      go_end0
      exact ⟨rfl, m, by simp [c2, HM.out]⟩
    · have d2 : decide (n < v) = false := decide_eq_false c2
      go_enter Try.func56, Try.ntmps56
      go_wp2_with (first | (go_at_call 54; (with_reducible refine (impl_weighted.calls k _ _ l _ _ o n _ ?side1 ?side2 ?side3 ?side4 H.out).mono ?_); (case side1 => exact HC.out); (case side2 => exact HCL.out); (case side3 => exact HO.out); (case side4 => exact HCO.out); rintro e w5 ⟨rfl, hb⟩; obtain ⟨⟨m, hm⟩⟩ := hb; have hv5 : w5.cell? { block := bv, off := 0 } = some (.int .i64 v) := (by rw [hm]; exact hv); have hf5 : w5.frozen? { block := bv, off := 0 } = false := (by rw [hm]; exact hf); have HM := Aside0.mk hm; clear hm))
      go_end0
      exact ⟨rfl, m, by simp [c1, c2, HM.out]⟩
/-- The variables of impl.LeastWeighted and impl.orders, and least's number. -/
structure OV (w0 W : World) (bm bt by_ bl bv many : Nat) (AL : Option Addr) (cl : Nat) (l : List S36) (v : Int) : Prop where
  hm : W.cell? ⟨bm, 0, none⟩ = some (.int .i64 many)
  ht : W.cell? ⟨bt, 0, none⟩ = some (.func (.func 56) #[] #[.pointer (some ⟨bl, 0, none⟩), .pointer (some ⟨bv, 0, none⟩)])
  hy : W.cell? ⟨by_, 0, none⟩ = some (.func (.func 64) #[] #[.pointer (some ⟨bm, 0, none⟩), .pointer (some ⟨bt, 0, none⟩), .pointer (some ⟨by_, 0, none⟩)])
  hl : W.cell? ⟨bl, 0, none⟩ = some (.slice AL l.length cl)
  hB : Below w0.heap.size w0 W
  hv : W.cell? ⟨bv, 0, none⟩ = some (.int .i64 v)
  hf : W.frozen? ⟨bv, 0, none⟩ = false
  n1 : bm ≠ bv
  n2 : bt ≠ bv
  n3 : by_ ≠ bv
  n4 : bl ≠ bv
  nv : w0.heap.size ≤ bv
theorem OV.keep {w0 W W' : World} {bm bt by_ bl bv many : Nat} {AL : Option Addr} {cl : Nat} {l : List S36} {v v' : Int} (h : OV w0 W bm bt by_ bl bv many AL cl l v) (hk : KeepBut W W' bv none) (hb : Below w0.heap.size w0 W')
    (hv : W'.cell? ⟨bv, 0, none⟩ = some (.int .i64 v')) (hf : W'.frozen? ⟨bv, 0, none⟩ = false) : OV w0 W' bm bt by_ bl bv many AL cl l v' :=
  ⟨keep_cell hk h.hm h.n1, keep_cell hk h.ht h.n2, keep_cell hk h.hy h.n3, keep_cell hk h.hl h.n4, hb, hv, hf, h.n1, h.n2, h.n3, h.n4, h.nv⟩
theorem OV.below {w0 W W' : World} {bm bt by_ bl bv many : Nat} {AL : Option Addr} {cl : Nat} {l : List S36} {v : Int} (h : OV w0 W bm bt by_ bl bv many AL cl l v) (hb : Below W.heap.size W W') : OV w0 W' bm bt by_ bl bv many AL cl l v :=
  h.keep (KeepBut.of_below hb bv none) (below_step h.hB hb) ((hb.cell (World.block_lt_of_cell? W _ h.hv)).trans h.hv) ((hb.frozen (p := ⟨bv, 0, none⟩) (World.block_lt_of_cell? W _ h.hv)).trans h.hf)
def LwPost (w0 W : World) (bm bt by_ bl bv many : Nat) (AL : Option Addr) (cl : Nat) (l : List S36) (r : Int) (e : Ending) (W' : World) : Prop :=
  e = .returned (.tuple #[]) ∧ KeepBut W W' bv none ∧ OV w0 W' bm bt by_ bl bv many AL cl l r
theorem lw56p (k : Nat) (l : List S36) (o : List Int) (v n : Int) (AL AO : Option Addr) (cl co bm bt by_ bl bv many : Nat) (w0 w : World)
    (hcl : l.length ≤ cl) (hC : Kd.C k36 w0 AL l.length l) (hO : Kd.C (Kd.int .i64) w AO o.length o) (hco : o.length ≤ co) (hV : OV w0 w bm bt by_ bl bv many AL cl l v) (h : impl_weighted.f k l o = some n) :
    Calls Try.prog 56 #[.slice AO o.length co, .pointer (some ⟨bl, 0, none⟩), .pointer (some ⟨bv, 0, none⟩)] w (LwPost w0 w bm bt by_ bl bv many AL cl l (if v < 0 ∨ n < v then n else v)) := by
  refine (lw56 k l o v n AL AO cl co bl bv w hV.hl hcl (Kd.C_below hC hV.hB) hO hco hV.hv hV.hf h).mono ?_
  rintro e w' ⟨rfl, m, hm⟩
  refine ⟨rfl, ?_⟩
  subst hm
  split
  · rename_i hc
    have hlt := World.block_lt_of_cell? w _ hV.hv
    refine ⟨(keep_drewN (KeepBut.refl w bv none) m).set_ 0 _, hV.keep ((keep_drewN (KeepBut.refl w bv none) m).set_ 0 _) ((pw_below_drewN hV.hB m).setCell hV.nv _) ?_ ?_⟩
    · exact World.cell?_setCell_same (w.drewN m) _ _ hV.hv
    · go_simp
      exact hV.hf
  · exact ⟨keep_drewN (KeepBut.refl w bv none) m, hV.below (pw_below_drewN (Below.refl _ _) m)⟩
mutual
def impl_orders.g : Nat → List S36 → Int → List Int → Int → Option Int
  | 0, _, _, _, _ => none
  | k + 1, l, m, o, v => if (o.length : Int) = m then ((impl_weighted.f k l o).bind fun n => (some (if v < 0 ∨ n < v then n else v))) else (impl_orders.l0 k l m o v 0)
def impl_orders.l0 : Nat → List S36 → Int → List Int → Int → Int → Option Int
  | 0, _, _, _, _, _ => none
  | k + 1, l, m, o, v, i => if i < m then ((slices_Contains_int_int.f k o i).bind fun t => (if t = true then (impl_orders.l0 k l m o v (wrap64 (i + 1))) else (if o.length < 1000 then ((impl_orders.g k l m (o ++ [i]) v).bind fun v' => (impl_orders.l0 k l m o v' (wrap64 (i + 1)))) else (none)))) else (some v)
end
def impl_LeastWeighted.f (k : Nat) (l0 : List (S36)) : Option (Int) := (impl_TasksOk.f k l0).bind fun t => (if t = true then (impl_orders.g k l0 (l0.length : Int) [] (-1)) else (some (-1)))
theorem impl_orders.mono_gl : ∀ k, (∀ l m o v, LeO (impl_orders.g k l m o v) (impl_orders.g (k + 1) l m o v)) ∧ (∀ l m o v i, LeO (impl_orders.l0 k l m o v i) (impl_orders.l0 (k + 1) l m o v i))
  | 0 => ⟨fun _ _ _ _ r h => by simp [impl_orders.g] at h, fun _ _ _ _ _ r h => by simp [impl_orders.l0] at h⟩
  | k + 1 => by
    obtain ⟨ihg, ihl⟩ := impl_orders.mono_gl k
    refine ⟨fun l m o v => ?_, fun l m o v i => ?_⟩
    · unfold impl_orders.g
      exact LeO.ite (LeO.bind (impl_weighted.mono _ _ _) (fun _ => LeO.refl _)) (ihl _ _ _ _ _)
    · unfold impl_orders.l0
      exact LeO.ite (LeO.bind (slices_Contains_int_int.mono _ _ _) (fun _ => LeO.ite (ihl _ _ _ _ _) (LeO.ite (LeO.bind (ihg _ _ _ _) (fun _ => ihl _ _ _ _ _)) (LeO.none _)))) (LeO.refl _)
theorem impl_LeastWeighted.mono : ∀ a0 k, LeO (impl_LeastWeighted.f k a0) (impl_LeastWeighted.f (k + 1) a0) := by
  intro a0 k
  unfold impl_LeastWeighted.f
  exact LeO.bind (impl_TasksOk.mono _ _) (fun _ => LeO.ite ((impl_orders.mono_gl k).1 _ _ _ _) (LeO.refl _))
theorem newrow (w : World) (i : Int) : Kd.C (Kd.int .i64) (w.alloc (.cells #[.int .i64 i] 3)) (some ⟨w.heap.size, 0, none⟩) 1 [i] :=
  Kd.C_of_reads (enc := Value.int .i64) (d := (0 : Int)) (h1 := fun _ => rfl) ⟨rfl, by decide, fun _ => ⟨_, rfl, fun j hj => by
    obtain rfl : j = 0 := by omega
    go_simp⟩⟩
set_option maxHeartbeats 8000000 in
set_option maxRecDepth 100000 in
theorem lw64 (many : Nat) (l : List S36) (AL : Option Addr) (cl bm bt by_ bl bv : Nat) (w0 : World) (hcl : l.length ≤ cl) (hC : Kd.C k36 w0 AL l.length l) :
    ∀ (k : Nat) (o : List Int) (v r : Int), impl_orders.g k l (many : Int) o v = some r → ∀ (AO : Option Addr) (co : Nat) (w : World), OV w0 w bm bt by_ bl bv many AL cl l v → Kd.C (Kd.int .i64) w AO o.length o →
      (∀ ad, AO = some ad → 0 < o.length → ad.block ≠ bv) → o.length ≤ co →
    Calls Try.prog 64 #[.slice AO o.length co, .pointer (some ⟨bm, 0, none⟩), .pointer (some ⟨bt, 0, none⟩), .pointer (some ⟨by_, 0, none⟩)] w (LwPost w0 w bm bt by_ bl bv many AL cl l r) := by
  intro k
  induction k using Nat.strongRecOn with
  | ind k ih =>
  intro o v r h AO co w hV hO hne hco
  have hm := hV.hm
  have ht := hV.ht
  have HV := Aside0.mk hV
  have HO := Aside0.mk hO
  have HN := Aside0.mk hne
  have HCO := Aside0.mk hco
  have HC := Aside0.mk hC
  have HCL := Aside0.mk hcl
  have IH := Aside0.mk ih
  clear hV hO hne hco hC hcl ih
  cases k with
  | zero => exact absurd h (by simp [impl_orders.g])
  | succ k =>
    simp only [impl_orders.g] at h
    by_cases c0 : (o.length : Int) = (many : Int)
    · rw [if_pos c0] at h
      replace h := Option.bind_eq_some_iff.mp h
      have h_ := h; obtain ⟨n, h1, h2⟩ := h_
      have HR := Aside0.mk (Option.some.inj h2)
      have H1 := Aside0.mk h1
      have d0 : ((o.length : Int) == (many : Int)) = true := by simpa using c0
      clear h h1 h2 c0
      go_enter Try.func64, Try.ntmps64
      go_wp2_with (first | (go_at_call 56; (with_reducible refine (lw56p k l o v n AL AO cl co bm bt by_ bl bv many w0 _ HCL.out HC.out HO.out HCO.out HV.out H1.out).mono ?_); rintro e w5 ⟨rfl, hk5, hv5⟩; have HP := Aside0.mk (And.intro hk5 hv5); clear hk5 hv5))
      go_end0
      exact ⟨rfl, HP.out.1, HR.out ▸ HP.out.2⟩
    · rw [if_neg c0] at h
      have d0 : ((o.length : Int) == (many : Int)) = false := by simpa using c0
      have H' := Aside0.mk h
      clear h c0
      go_enter Try.func64, Try.ntmps64
      go_wp2
      go_loopg [14] k (fun kq v14 w' => ∃ (i v' : Int), v14 = .int .i64 i ∧ Aside0 (impl_orders.l0 kq l (many : Int) o v' i = some r) ∧ Aside0 (kq ≤ k) ∧ Aside0 (KeepBut w w' bv none) ∧ Aside0 (OV w0 w' bm bt by_ bl bv many AL cl l v'))
      case atStart => exact ⟨0, v, rfl, H', ⟨Nat.le_refl _⟩, ⟨KeepBut.refl _ _ _⟩, HV⟩
      case round =>
        clear H' HV hm ht
        obtain ⟨i, v', rfl, HA, HK1, HKB, HV⟩ := hrel
        cases gk with
        | zero => exact absurd HA.out (by simp [impl_orders.l0])
        | succ k1 =>
          have H := HA.out
          clear HA
          simp only [impl_orders.l0] at H
          by_cases c1 : i < (many : Int)
          · rw [if_pos c1] at H
            have d1 : decide (i < (many : Int)) = true := decide_eq_true c1
            obtain ⟨t, ht1, H⟩ := Option.bind_eq_some_iff.mp H
            have HT := Aside0.mk ht1
            have C1 := Aside0.mk c1
            clear ht1 c1
            cases t with
            | true =>
              rw [if_pos rfl] at H
              have H' := Aside0.mk H
              clear H
              go_wp2_with (first | (go_at_call 45; (with_reducible refine (slices_Contains_int_int.calls k1 _ _ o i true _ ?side1 ?side2 HT.out).mono ?_); (case side1 => exact Kd.C_keep (d := (0 : Int)) HO.out HKB.out HN.out); (case side2 => exact HCO.out); rintro e w5 ⟨rfl, hb⟩; have n1_ := Aside0.mk (HV.out.below hb.below); have n2_ := Aside0.mk (HKB.out.trans (KeepBut.of_below hb.below bv none) (.inl rfl)); clear HV HKB hb; have HV := n1_; have HKB := n2_; clear n1_ n2_))
              go_roundg k1
              case measure => have := HK1.out; omega
              case rel => exact ⟨_, _, (by first | rfl | (simp; done) | (simp [*]; done)), H', ⟨by have := HK1.out; omega⟩, HKB, HV⟩
            | false =>
              rw [if_neg (by simp)] at H
              go_wp2_with (first | (go_at_call 45; (with_reducible refine (slices_Contains_int_int.calls k1 _ _ o i false _ ?side1 ?side2 HT.out).mono ?_); (case side1 => exact Kd.C_keep (d := (0 : Int)) HO.out HKB.out HN.out); (case side2 => exact HCO.out); rintro e w5 ⟨rfl, hb⟩; have n1_ := Aside0.mk (HV.out.below hb.below); have n2_ := Aside0.mk (HKB.out.trans (KeepBut.of_below hb.below bv none) (.inl rfl)); clear HV HKB hb; have HV := n1_; have HKB := n2_; clear n1_ n2_))
              have c2 : o.length < 1000 := Classical.byContradiction fun c2 => by rw [if_neg c2] at H; cases H
              rw [if_pos c2] at H
              obtain ⟨v2, hg, H⟩ := Option.bind_eq_some_iff.mp H
              have HG := Aside0.mk hg
              have H' := Aside0.mk H
              have C2 := Aside0.mk c2
              clear hg H c2
              have hs := HV.out.hy
              refine start_ (n := 7) (S := fun w' => w'.cell? ⟨by_, 0, none⟩ = some (.func (.func 64) #[] #[.pointer (some ⟨bm, 0, none⟩), .pointer (some ⟨bt, 0, none⟩), .pointer (some ⟨by_, 0, none⟩)])) (ds := []) #[false, false, false, false, false, false, false] (by kernel_rfl) rfl rfl hs (fun hHeld => ?_)
              have n1_ := Aside0.mk (HV.out.below (below_drew (Below.refl _ w5)))
              have n2_ := Aside0.mk (HKB.out.trans (KeepBut.of_below (below_drew (Below.refl _ w5)) bv none) (.inl rfl))
              clear HV HKB hs
              have HV := n1_
              have HKB := n2_
              clear n1_ n2_
              generalize w5.drew = w9 at HV HKB hHeld ⊢
              refine pure_ (i := 1) (N := some 22) (v := ?_) (a' := ?_) #[false, true, false, false, false, false, false] rfl rfl (by kernel_rfl) (fun _ _ _ h => h) (Or.inl ⟨by rfl, ?_⟩) ?_ ?_
              rotate_left
              · intro w'
                go_simp
                with_reducible rfl
              rotate_left
              · simp only [Act.put, List.setIfInBounds_toArray, List.set_cons_zero, List.set_cons_succ, i64_w, i32_w]
                rfl
              refine pure_ (i := 3) (N := some 24) (v := ?_) (a' := ?_) #[false, true, false, true, false, false, false] rfl rfl (by kernel_rfl) (fun _ _ _ h => h) (Or.inl ⟨by rfl, ?_⟩) ?_ ?_
              rotate_left
              · intro w'
                go_simp
                with_reducible rfl
              rotate_left
              · simp only [Act.put, List.setIfInBounds_toArray, List.set_cons_zero, List.set_cons_succ, i64_w, i32_w]
                rfl
              refine take_ (i := 0) (N := some 21) (v := ?_) (a' := ?_) #[true, true, false, true, false, false, false] rfl rfl (by kernel_rfl) (fun _ _ _ h => h) (Or.inl ⟨by rfl, ?_⟩) hHeld ?_ ?_
              rotate_left
              · intro w' hw'
                go_simp
                with_reducible rfl
              rotate_left
              · simp only [Act.put, List.setIfInBounds_toArray, List.set_cons_zero, List.set_cons_succ, i64_w, i32_w]
                rfl
              have HO9 : Aside0 (Kd.C (Kd.int .i64) w9 AO o.length o) := ⟨Kd.C_keep (d := (0 : Int)) HO.out HKB.out HN.out⟩
              have hcl : slices_Clone_int_int.f o = some o := by unfold slices_Clone_int_int.f; exact if_pos (by have := C2.out; omega)
              have HCL5 := Aside0.mk hcl
              clear hcl
              refine join_ (σ := Value × Nat) 2 #[true, true, true, true, true, false, false] (fun s => [(23, s.1), (25, .slice (some ⟨s.2, 0, none⟩) 1 1)]) (fun s w' => Kd.R (Kd.int .i64) 3 w' w9.heap.size (fun _ => True) s.1 o ∧ Kd.C (Kd.int .i64) w' (some ⟨s.2, 0, none⟩) 1 [i] ∧ Below w9.heap.size w9 w') ?cont (fun hcont => ?_)
              case cont =>
                rintro ⟨v23, g⟩ w10 ⟨hR, hC1, hb⟩
                refine norm_ (a' := ?_) ?_ ?_
                rotate_left
                · simp only [putAll, Act.put, List.setIfInBounds_toArray, List.set_cons_zero, List.set_cons_succ]
                  rfl
                refine one_ (i := 5) (N := some 26) #[true, true, true, true, true, true, false] rfl rfl (by kernel_rfl) (by decide) (fun K hK => ?_)
                refine Kd.R_append_rows_step (Kd.int .i64) (w0 := w9) w9.heap.size (by rfl) (.tmp 23) (.tmp 25) 22 3 (.int .i64 0) 8 rfl Try.underlying22 info3 rfl (by decide) (by omega) v23 o [i] (some ⟨g, 0, none⟩) 1 1 (fun _ => True) (fun _ => False) (by rfl) (by rfl) hR hC1 (fun _ _ h => h) (fun _ h => h.elim) (fun _ _ => trivial) hb hb.size (by have := C2.out; omega) ?_
                intro v26 w11 hR1 hb1 hg1 hat1
                refine hK.out _ _ ((hb1.cell (World.block_lt_of_cell? w9 _ hHeld)).trans hHeld) (fun hHeld1 => ?_)
                refine norm_ (a' := ?_) ?_ ?_
                rotate_left
                · simp only [putAll, Act.put, List.setIfInBounds_toArray, List.set_cons_zero, List.set_cons_succ]
                  rfl
                obtain ⟨A26, c26, rfl, hle, hC26⟩ := Kd.R_reads hR1
                refine one_ (i := 6) (N := some 27) #[true, true, true, true, true, true, true] rfl rfl (by kernel_rfl) (by decide) (fun K' hK' => ?_)
                refine call_ 64 #[.slice A26 (o ++ [i]).length c26, .pointer (some ⟨bm, 0, none⟩), .pointer (some ⟨bt, 0, none⟩), .pointer (some ⟨by_, 0, none⟩)] (by rfl) rfl ?hr ?_
                case hr =>
                  have he := enters_ Try.func64 (by kernel_rfl) rfl #[.slice A26 (o ++ [i]).length c26, .pointer (some ⟨bm, 0, none⟩), .pointer (some ⟨bt, 0, none⟩), .pointer (some ⟨by_, 0, none⟩)] w11
                  unfold execOp
                  simp [resolve, Deferred.ofValue, invoke, Act.eval, he]
                have hne26 : ∀ ad, A26 = some ad → 0 < (o ++ [i]).length → ad.block ≠ bv := by
                  intro ad e _ e2
                  subst e
                  have h1 := World.block_lt_of_cell? w9 _ HV.out.hv
                  obtain ⟨_, inner, hown, _⟩ := hR1
                  have h2 := own_base hown ad.block rfl
                  simp only at h1
                  omega
                refine (IH.out k1 (by have := HK1.out; omega) (o ++ [i]) v' v2 HG.out A26 c26 w11 (HV.out.below hb1) hC26 hne26 hle).mono ?_
                rintro e w12 ⟨rfl, hk12, hv12⟩
                refine ⟨_, rfl, ?_⟩
                have n1_ := Aside0.mk ((HKB.out.trans (KeepBut.of_below hb1 bv none) (.inl rfl)).trans hk12 (.inl rfl))
                refine hK'.out _ _ hv12.hy (fun _ => ?_)
                refine norm_ (a' := ?_) ?_ ?_
                rotate_left
                · simp only [putAll, Act.put, List.setIfInBounds_toArray, List.set_cons_zero, List.set_cons_succ]
                  rfl
                refine done_ (by kernel_rfl) ?_
                have n2_ := Aside0.mk hv12
                clear HV HKB hHeld HO9 hR hC1 hb hR1 hb1 hg1 hat1 hHeld1 hC26 hne26 hk12 hv12 hK hK'
                have HV := n2_
                have HKB := n1_
                clear n1_ n2_
                go_wp2
                go_roundg k1
                case measure => have := HK1.out; omega
                case rel => exact ⟨_, _, (by first | rfl | (simp; done) | (simp [*]; done)), H', ⟨by have := HK1.out; omega⟩, HKB, HV⟩
              refine two_ (i := 2) (j := 4) (Ni := some 23) (Nj := some 25) #[true, true, true, true, false, false, false] #[true, true, false, true, true, false, false] rfl rfl rfl rfl (by kernel_rfl) (by decide) (by decide) (fun K hK => ?_) (fun K hK => ?_)
              · refine goes_ Try.func59 (by kernel_rfl) rfl #[.slice AO o.length co] (by rfl) rfl rfl (by (try simp only [List.map_toArray, List.map_cons, List.map_nil]); first | done | rfl) ?_
                with_reducible refine (slices_Clone_int_int.calls AO co o o _ HO9.out HCO.out HCL5.out).mono ?_
                rintro e w10 ⟨v23, rfl, hR, hb⟩
                refine ⟨_, rfl, ?_⟩
                refine hK.out _ _ ((hb.cell (World.block_lt_of_cell? w9 _ hHeld)).trans hHeld) (fun hHeld => ?_)
                refine norm_ (a' := ?_) ?_ ?_
                rotate_left
                · simp only [putAll, Act.put, List.setIfInBounds_toArray, List.set_cons_zero, List.set_cons_succ]
                  rfl
                refine one_ (i := 4) (N := some 25) #[true, true, true, true, true, false, false] rfl rfl (by kernel_rfl) (by decide) (fun K' hK' => ?_)
                refine value_ (v := .slice (some ⟨w10.heap.size, 0, none⟩) 1 1) (w1 := w10.alloc (.cells #[.int .i64 i] 3)) (by rfl) rfl ?hr ?_
                case hr => first | (go_simp; done) | (go_simp; rfl)
                refine hK'.out _ _ (((below_alloc (Below.refl _ w10) _).cell (World.block_lt_of_cell? w10 _ hHeld)).trans hHeld) (fun _ => ?_)
                exact hcont (v23, w10.heap.size) _ ⟨Kd.R_alloc hR _, newrow w10 i, below_alloc hb _⟩
              · refine value_ (v := .slice (some ⟨w9.heap.size, 0, none⟩) 1 1) (w1 := w9.alloc (.cells #[.int .i64 i] 3)) (by rfl) rfl ?hr ?_
                case hr => first | (go_simp; done) | (go_simp; rfl)
                have hb9 := below_alloc (Below.refl w9.heap.size w9) (.cells #[.int .i64 i] 3)
                refine hK.out _ _ ((hb9.cell (World.block_lt_of_cell? w9 _ hHeld)).trans hHeld) (fun hHeld => ?_)
                refine norm_ (a' := ?_) ?_ ?_
                rotate_left
                · simp only [putAll, Act.put, List.setIfInBounds_toArray, List.set_cons_zero, List.set_cons_succ]
                  rfl
                refine one_ (i := 2) (N := some 23) #[true, true, true, true, true, false, false] rfl rfl (by kernel_rfl) (by decide) (fun K' hK' => ?_)
                refine goes_ Try.func59 (by kernel_rfl) rfl #[.slice AO o.length co] (by rfl) rfl rfl (by (try simp only [List.map_toArray, List.map_cons, List.map_nil]); first | done | rfl) ?_
                with_reducible refine (slices_Clone_int_int.calls AO co o o _ (Kd.C_alloc HO9.out _) HCO.out HCL5.out).mono ?_
                rintro e w10 ⟨v23, rfl, hR, hb⟩
                refine ⟨_, rfl, ?_⟩
                refine hK'.out _ _ ((hb.cell (World.block_lt_of_cell? _ _ hHeld)).trans hHeld) (fun _ => ?_)
                exact hcont (v23, w9.heap.size) _ ⟨Kd.R_lower hR (by simp), Kd.C_below (newrow w9 i) hb, below_step hb9 hb⟩
          · rw [if_neg c1] at H
            have d1 : decide (i < (many : Int)) = false := decide_eq_false c1
            clear c1
            obtain rfl := Option.some.inj H
            go_wp2
            go_end0
            exact ⟨rfl, HKB.out, HV.out⟩
def LwEnd (w0 : World) (bv : Nat) (r : Int) (e : Ending) (W : World) : Prop := e = .returned (.tuple #[]) ∧ Below w0.heap.size w0 W ∧ W.cell? ⟨bv, 0, none⟩ = some (.int .i64 r)
set_option maxHeartbeats 8000000 in
set_option maxRecDepth 100000 in
theorem lw55 (k many : Nat) (l : List S36) (AL : Option Addr) (cl bl bv : Nat) (v r : Int) (w0 w : World) (hcl : l.length ≤ cl) (hC : Kd.C k36 w0 AL l.length l)
    (hl : w.cell? ⟨bl, 0, none⟩ = some (.slice AL l.length cl)) (hv : w.cell? ⟨bv, 0, none⟩ = some (.int .i64 v)) (hf : w.frozen? ⟨bv, 0, none⟩ = false) (hB : Below w0.heap.size w0 w) (nv : w0.heap.size ≤ bv) (n4 : bl ≠ bv)
    (h : impl_orders.g k l (many : Int) [] v = some r) :
    Calls Try.prog 55 #[.int .i64 many, .func (.func 56) #[] #[.pointer (some ⟨bl, 0, none⟩), .pointer (some ⟨bv, 0, none⟩)]] w (LwEnd w0 bv r) := by
  have HC := Aside0.mk hC
  have HCL := Aside0.mk hcl
  have H := Aside0.mk h
  have HL := Aside0.mk hl
  have HVV := Aside0.mk hv
  have HF := Aside0.mk hf
  have HB := Aside0.mk hB
  have NV := Aside0.mk nv
  have N4 := Aside0.mk n4
  have L1 := Aside0.mk (World.block_lt_of_cell? w _ hl)
  have L2 := Aside0.mk (World.block_lt_of_cell? w _ hv)
  clear hC hcl h hl hv hf hB nv n4
  have hst : ∀ (a : Addr) (fn : Fn) (f1 f2 : Array Value) (m : Mode) (w1 : World), (store a (.func fn f1 f2) m).run Try.prog w1 = stored Try.prog w1 a (.func fn f1 f2) m := fun a fn f1 f2 m w1 => run_store Try.prog w1 a _ m rfl
  go_enter Try.func55, Try.ntmps55
  go_wp2_with fail
  have B3 := fun o1 o2 o3 => below_alloc (below_alloc (below_alloc (Below.refl w.heap.size w) o1) o2) o3
  refine (lw64 many l AL cl w.heap.size (w.heap.size + 1) (w.heap.size + 1 + 1) bl bv w0 HCL.out HC.out k [] v r H.out none 0 _ ⟨?a1, ?a2, ?a3, ((B3 _ _ _).cell L1.out).trans HL.out, below_step HB.out (B3 _ _ _), ((B3 _ _ _).cell L2.out).trans HVV.out, ((B3 _ _ _).frozen (p := ⟨bv, 0, none⟩) L2.out).trans HF.out, ?a4, ?a5, ?a6, N4.out, NV.out⟩ ?a7 ?a8 (Nat.le_refl _)).mono ?_
  case a1 => go_simp
  case a2 => go_simp
  case a3 => go_simp
  case a4 => have := L2.out; omega
  case a5 => have := L2.out; omega
  case a6 => have := L2.out; omega
  case a7 => exact ⟨rfl, by decide, fun h => absurd h (by decide)⟩
  case a8 => exact fun ad e => by cases e
  rintro e w5 ⟨rfl, _, hV⟩
  have HV := Aside0.mk hV
  clear hV
  go_wp2
  go_end0
  exact ⟨rfl, HV.out.hB, HV.out.hv⟩
set_option maxHeartbeats 8000000 in
set_option maxRecDepth 100000 in
theorem impl_LeastWeighted.calls (k : Nat) (A0 : Option Addr) (c0 : Nat) (l0 : List (S36)) (r : Int) (w : World) (hr0 : Kd.C k36 w A0 l0.length l0) (hc0 : l0.length ≤ c0) (h : impl_LeastWeighted.f k l0 = some r) :
    Calls Try.prog 31 #[.slice A0 l0.length c0] w fun e w' => e = .returned (.int .i64 r) ∧ Below w.heap.size w w' := by
  have HR0 := Aside0.mk hr0
  have HC0 := Aside0.mk hc0
  clear hr0 hc0
  have HB := Aside0.mk (Below.refl w.heap.size w)
  unfold impl_LeastWeighted.f at h
  obtain ⟨t, h1, h2⟩ := Option.bind_eq_some_iff.mp h
  have H1 := Aside0.mk h1
  clear h h1
  cases t with
  | false =>
    have H2 : (-1 : Int) = r := by rw [if_neg (by simp)] at h2; exact Option.some.inj h2
    subst H2
    clear h2
    go_enter Try.func31, Try.ntmps31
    go_wp2_with (first | (go_at_call 22; (with_reducible refine (impl_TasksOk.calls k _ _ l0 false _ ?side1 ?side2 H1.out).mono ?_); (case side1 => exact (Kd.C_alloc HR0.out _)); (case side2 => exact HC0.out); rintro e w5 ⟨rfl, hb⟩; have n0_ := Aside0.mk (below_step (below_alloc HB.out _) hb); clear HB; have HB := n0_; clear n0_; clear hb))
    go_ret
    exact ⟨rfl, HB.out⟩
  | true =>
    have H2 := Aside0.mk (show impl_orders.g k l0 (l0.length : Int) [] (-1) = some r by rw [if_pos rfl] at h2; exact h2)
    clear h2
    have hst : ∀ (a : Addr) (fn : Fn) (f1 f2 : Array Value) (m : Mode) (w1 : World), (store a (.func fn f1 f2) m).run Try.prog w1 = stored Try.prog w1 a (.func fn f1 f2) m := fun a fn f1 f2 m w1 => run_store Try.prog w1 a _ m rfl
    go_enter Try.func31, Try.ntmps31
    go_wp2_with fail
    refine (impl_TasksOk.calls k _ _ l0 true _ (Kd.C_alloc HR0.out _) HC0.out H1.out).mono ?_
    rintro e w5 ⟨rfl, hb⟩
    have hl5 : w5.cell? ⟨w.heap.size, 0, none⟩ = some (.slice A0 l0.length c0) := (hb.cell (p := ⟨w.heap.size, 0, none⟩) (by simp)).trans (by go_simp)
    have n0_ := Aside0.mk (below_step (below_alloc HB.out _) hb)
    have LT := Aside0.mk (show w.heap.size + 1 ≤ w5.heap.size by have := hb.size; simpa using this)
    clear HB hb
    have HB := n0_
    clear n0_
    have hl6 : (w5.alloc (.cells #[.int .i64 (-1)] 3)).cell? ⟨w.heap.size, 0, none⟩ = some (.slice A0 l0.length c0) := ((below_alloc (Below.refl _ w5) _).cell (World.block_lt_of_cell? w5 _ hl5)).trans hl5
    have hv6 : (w5.alloc (.cells #[.int .i64 (-1)] 3)).cell? ⟨w5.heap.size, 0, none⟩ = some (.int .i64 (-1)) := by go_simp
    have hf6 : (w5.alloc (.cells #[.int .i64 (-1)] 3)).frozen? ⟨w5.heap.size, 0, none⟩ = false := by go_simp
    have HF6 := Aside0.mk hf6
    have HV6 := Aside0.mk hv6
    clear hf6 hv6
    go_wp2_with (first | (go_at_call 55; (with_reducible refine (lw55 k l0.length l0 A0 c0 w.heap.size w5.heap.size (-1) r w _ HC0.out HR0.out hl6 HV6.out HF6.out (below_alloc HB.out _) ?s1 ?s2 H2.out).mono ?_); (case s1 => have := LT.out; omega); (case s2 => have := LT.out; omega); rintro e w7 ⟨rfl, hb7, hv7⟩; have HB7 := Aside0.mk hb7; clear hb7 hl6 hl5))
    go_ret
    exact ⟨rfl, HB7.out⟩

end Go.Proofs.Ytclodndgieefcaa.PFnWeightedSum
