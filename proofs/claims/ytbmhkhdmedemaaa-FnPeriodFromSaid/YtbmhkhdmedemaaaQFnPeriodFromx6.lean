/- Contracts of the functions that the law FnPeriodFrom uses, written by a program of this session (wip/mend.py) over the kit's print; nothing is assumed. -/
import Derived.Test.YtbmhkhdmedemaaaPFnPeriodFromx0
import Derived.Test.YtbmhkhdmedemaaaPFnPeriodFromx1
import Derived.Test.YtbmhkhdmedemaaaPFnPeriodFromx3
import Derived.Test.YtbmhkhdmedemaaaPFnPeriodFromx4
import Derived.Test.YtbmhkhdmedemaaaQFnPeriodFromx5
namespace Go.Proofs.Ytbmhkhdmedemaaa.PFnPeriodFrom
open Go.RowKit Go.Proofs.YtbmhkhdmedemaaaW.PrintWords Go.Proofs.YtbmhkhdmedemaaaW.PrintLast Go.Proofs.YtbmhkhdmedemaaaW.PrintMore
attribute [local go_sem] max2_int min2_int max_two min_two max_three min_three max_four min_four   -- for this text's walks alone
set_option linter.unusedVariables false
set_option linter.unusedSimpArgs false

/-! ### laws_FnPeriodFrom: function 14 -/
def laws_FnPeriodFrom.l0 : Nat → List (S52) → Int → Int → List (List Int) → Int → Bool → Int → Option (Bool)
  | 0, _, _, _, _, _, _, _ => none
  | k + 1, x3, x4, x5, x6, x7, x8, x9 => if x9 < (x3.length : Int) then (if x8 = true then (laws_FnPeriodFrom.l0 k x3 x4 x5 x6 x7 true (wrap64 (x9 + 1))) else (if 0 ≤ x9 then (laws_FnPeriodFrom.l0 k x3 x4 x5 x6 x7 (((rd_T52 x3 x9).f0) == x7) (wrap64 (x9 + 1))) else (none))) else (if 0 ≤ x4 then (if x4 < (x3.length : Int) then (if x5 ≥ ((rd_T52 x3 x4).f1) then (if (x6.length : Int) > 0 then (if 0 < (x6.length : Int) then (if 0 < ((rd_L3 x6 0).length : Int) then (if (rd (rd_L3 x6 0) 0) = ((rd_T52 x3 x4).f0) then (if 1 < ((rd_L3 x6 0).length : Int) then (if (rd (rd_L3 x6 0) 1) ≥ x7 then (if x8 = true then (some true) else (some ((rd (rd_L3 x6 0) 1) == x7))) else (some false)) else (none)) else (some false)) else (none)) else (none)) else (some false)) else (some false)) else (none)) else (none))
def laws_FnPeriodFrom.f (k : Nat) (l0 : List Int) : Option (Bool) := if (l0.length : Int) > 1048576 then (some true) else ((spec_DrawPeriodFrom.f k l0).bind fun bt233 => ((impl_PeriodFrom.f k bt233.1 bt233.2).bind fun t237 => ((spec_PeriodFrom.f k bt233.1 bt233.2).bind fun t238 => (if t237 = t238 then (if t237 < 0 then (if t237 = (-1) then ((laws_alive.f k).bind fun t239 => (some t239)) else (some false)) else (if 0 ≤ bt233.2 then (if bt233.2 ≤ (bt233.1.length : Int) then ((spec_BusyOf.f k (bt233.1.drop (bt233.2 : Int).toNat)).bind fun t244 => (if bt233.2 < (bt233.1.length : Int) then (laws_FnPeriodFrom.l0 k bt233.1 bt233.2 t237 t244 (wrap64 (((rd_T52 bt233.1 bt233.2).f0) + t237)) false bt233.2) else (none))) else (none)) else (none))) else (some false)))))
theorem laws_FnPeriodFrom.mono_l : ∀ k, (∀ y0 y1 y2 y3 y4 y5 y6, LeO (laws_FnPeriodFrom.l0 k y0 y1 y2 y3 y4 y5 y6) (laws_FnPeriodFrom.l0 (k + 1) y0 y1 y2 y3 y4 y5 y6))
  | 0 => fun _ _ _ _ _ _ _ r h => by simp [laws_FnPeriodFrom.l0] at h
  | k + 1 => by
    have ih0 := laws_FnPeriodFrom.mono_l k
    · intro y0 y1 y2 y3 y4 y5 y6
      unfold laws_FnPeriodFrom.l0
      repeat' first
      | (with_reducible exact ih0 _ _ _ _ _ _ _)
      | (with_reducible exact impl_PeriodFrom.mono _ _ _)
      | (with_reducible exact laws_alive.mono _)
      | (with_reducible exact spec_BusyOf.mono _ _)
      | (with_reducible exact spec_DrawPeriodFrom.mono _ _)
      | (with_reducible exact spec_PeriodFrom.mono _ _ _)
      | (with_reducible exact LeO.refl _)
      | (with_reducible exact LeO.none _)
      | (with_reducible refine LeO.ite ?_ ?_)
      | (with_reducible refine LeO.bind ?_ (fun _ => ?_))
      | exact ih0 _ _ _ _ _ _ _
      | exact impl_PeriodFrom.mono _ _ _
      | exact laws_alive.mono _
      | exact spec_BusyOf.mono _ _
      | exact spec_DrawPeriodFrom.mono _ _
      | exact spec_PeriodFrom.mono _ _ _
      | exact LeO.none _
      | refine LeO.ite ?_ ?_
      | refine LeO.bind ?_ (fun _ => ?_)
theorem laws_FnPeriodFrom.mono : ∀ a0 k, LeO (laws_FnPeriodFrom.f k a0) (laws_FnPeriodFrom.f (k + 1) a0) := by
  intro a0 k
  have ih0 := laws_FnPeriodFrom.mono_l k
  unfold laws_FnPeriodFrom.f
  repeat' first
      | (with_reducible exact ih0 _ _ _ _ _ _ _)
      | (with_reducible exact impl_PeriodFrom.mono _ _ _)
      | (with_reducible exact laws_alive.mono _)
      | (with_reducible exact spec_BusyOf.mono _ _)
      | (with_reducible exact spec_DrawPeriodFrom.mono _ _)
      | (with_reducible exact spec_PeriodFrom.mono _ _ _)
      | (with_reducible exact LeO.refl _)
      | (with_reducible exact LeO.none _)
      | (with_reducible refine LeO.ite ?_ ?_)
      | (with_reducible refine LeO.bind ?_ (fun _ => ?_))
      | exact ih0 _ _ _ _ _ _ _
      | exact impl_PeriodFrom.mono _ _ _
      | exact laws_alive.mono _
      | exact spec_BusyOf.mono _ _
      | exact spec_DrawPeriodFrom.mono _ _
      | exact spec_PeriodFrom.mono _ _ _
      | exact LeO.none _
      | refine LeO.ite ?_ ?_
      | refine LeO.bind ?_ (fun _ => ?_)
set_option maxHeartbeats 8000000 in
set_option maxRecDepth 100000 in
theorem laws_FnPeriodFrom.calls (k : Nat) (A0 : Option Addr) (c0 : Nat) (l0 : List Int) (r : Bool) (w : World) (hr0 : Kd.C (Kd.int .u8) w A0 l0.length l0) (hc0 : l0.length ≤ c0) (h : laws_FnPeriodFrom.f k l0 = some r) :
    Calls Try.prog 14 #[.slice A0 l0.length c0] w fun e w' => e = .returned (.bool r) ∧ Below w.heap.size w w' := by
  have HR0 := Aside0.mk hr0
  have HC0 := Aside0.mk hc0
  clear hr0 hc0
  have HB := Aside0.mk (Below.refl w.heap.size w)
  have H : (if (l0.length : Int) > 1048576 then (some true) else ((spec_DrawPeriodFrom.f k l0).bind fun bt233 => ((impl_PeriodFrom.f k bt233.1 bt233.2).bind fun t237 => ((spec_PeriodFrom.f k bt233.1 bt233.2).bind fun t238 => (if t237 = t238 then (if t237 < 0 then (if t237 = (-1) then ((laws_alive.f k).bind fun t239 => (some t239)) else (some false)) else (if 0 ≤ bt233.2 then (if bt233.2 ≤ (bt233.1.length : Int) then ((spec_BusyOf.f k (bt233.1.drop (bt233.2 : Int).toNat)).bind fun t244 => (if bt233.2 < (bt233.1.length : Int) then (laws_FnPeriodFrom.l0 k bt233.1 bt233.2 t237 t244 (wrap64 (((rd_T52 bt233.1 bt233.2).f0) + t237)) false bt233.2) else (none))) else (none)) else (none))) else (some false)))))) = some r := h
  clear h
  by_cases c2 : (l0.length : Int) > 1048576
  · rw [if_pos c2] at H
    have c2b0 : decide (1048576 < (l0.length : Int)) = true := decide_eq_true c2
    have c2b1 : decide (1048576 < l0.length) = true := decide_eq_true (by omega)
    clear c2
    obtain rfl := Option.some.inj H
    go_enter Try.func14, Try.ntmps14
    go_wp2
    repeat (go_quiet (fail); try go_wp2)
    go_ret
    exact ⟨by first | rfl | (simp [errW_none, errW_some] <;> rfl) | (simp [*, errW_none, errW_some] <;> rfl), by repeat (first | (with_reducible first | exact HB.out | apply below_alloc | apply pw_below_drewN | apply below_drew1) | exact HB.out)⟩
  · rw [if_neg c2] at H
    have c2b0 : decide (1048576 < (l0.length : Int)) = false := decide_eq_false c2
    have c2b1 : decide (1048576 < l0.length) = false := decide_eq_false (by omega)
    clear c2
    replace H := Option.bind_eq_some_iff.mp H
    obtain ⟨⟨t233, t234⟩, A30, H⟩ := H
    replace H : ((impl_PeriodFrom.f k t233 t234).bind fun t237 => ((spec_PeriodFrom.f k t233 t234).bind fun t238 => (if t237 = t238 then (if t237 < 0 then (if t237 = (-1) then ((laws_alive.f k).bind fun t239 => (some t239)) else (some false)) else (if 0 ≤ t234 then (if t234 ≤ (t233.length : Int) then ((spec_BusyOf.f k (t233.drop (t234 : Int).toNat)).bind fun t244 => (if t234 < (t233.length : Int) then (laws_FnPeriodFrom.l0 k t233 t234 t237 t244 (wrap64 (((rd_T52 t233 t234).f0) + t237)) false t234) else (none))) else (none)) else (none))) else (some false)))) = some r := H
    have A3 := Aside0.mk A30
    clear A30
    replace H := Option.bind_eq_some_iff.mp H
    obtain ⟨t237, A40, H⟩ := H
    replace H : ((spec_PeriodFrom.f k t233 t234).bind fun t238 => (if t237 = t238 then (if t237 < 0 then (if t237 = (-1) then ((laws_alive.f k).bind fun t239 => (some t239)) else (some false)) else (if 0 ≤ t234 then (if t234 ≤ (t233.length : Int) then ((spec_BusyOf.f k (t233.drop (t234 : Int).toNat)).bind fun t244 => (if t234 < (t233.length : Int) then (laws_FnPeriodFrom.l0 k t233 t234 t237 t244 (wrap64 (((rd_T52 t233 t234).f0) + t237)) false t234) else (none))) else (none)) else (none))) else (some false))) = some r := H
    have A4 := Aside0.mk A40
    clear A40
    replace H := Option.bind_eq_some_iff.mp H
    obtain ⟨t238, A50, H⟩ := H
    replace H : (if t237 = t238 then (if t237 < 0 then (if t237 = (-1) then ((laws_alive.f k).bind fun t239 => (some t239)) else (some false)) else (if 0 ≤ t234 then (if t234 ≤ (t233.length : Int) then ((spec_BusyOf.f k (t233.drop (t234 : Int).toNat)).bind fun t244 => (if t234 < (t233.length : Int) then (laws_FnPeriodFrom.l0 k t233 t234 t237 t244 (wrap64 (((rd_T52 t233 t234).f0) + t237)) false t234) else (none))) else (none)) else (none))) else (some false)) = some r := H
    have A5 := Aside0.mk A50
    clear A50
    by_cases c6 : t237 = t238
    · rw [if_pos c6] at H
      have c6b0 : (t237 == t238) = true := beq_iff_eq.mpr c6
      have c6b1 : (t237 != t238) = false := bne_eq_false_iff_eq.mpr c6
      clear c6
      by_cases c7 : t237 < 0
      · rw [if_pos c7] at H
        have c7b0 : decide (t237 < 0) = true := decide_eq_true c7
        clear c7
        by_cases c8 : t237 = (-1)
        · rw [if_pos c8] at H
          have c8b0 : (t237 == (-1)) = true := beq_iff_eq.mpr c8
          have c8b1 : (t237 != (-1)) = false := bne_eq_false_iff_eq.mpr c8
          clear c8
          replace H := Option.bind_eq_some_iff.mp H
          obtain ⟨t239, A90, H⟩ := H
          replace H : (some t239) = some r := H
          have A9 := Aside0.mk A90
          clear A90
          obtain rfl := Option.some.inj H
          go_enter Try.func14, Try.ntmps14
          go_wp2_with (first | (go_at_call 46; (with_reducible refine (spec_DrawPeriodFrom.calls k _ _ l0 t233 t234 _ ?side1 ?side2 A3.out).mono ?_); (case side1 => repeat (first | exact HR0.out | (with_reducible refine Kd.C_alloc ?_ _) | (with_reducible refine Kd.C_drewN ?_ _) | (with_reducible refine Kd.C_drew ?_))); (case side2 => exact HC0.out); rintro e w10 ⟨v235, rfl, ho0, hb⟩; have n0_ := Aside0.mk (Kd.R_lower ho0 (below_size (by repeat (first | (with_reducible first | exact HB.out | apply below_alloc | apply pw_below_drewN | apply below_drew1) | exact HB.out)))); have n1_ := Aside0.mk (below_step (by repeat (first | (with_reducible first | exact HB.out | apply below_alloc | apply pw_below_drewN | apply below_drew1) | exact HB.out)) hb); clear HB; have HO236 := n0_; have HB := n1_; clear n0_ n1_; (try clear hb); (try clear hb2); (try clear hk); (try clear hi); (try clear ho0); obtain ⟨Ao11, co11, eo11⟩ := Kd.R_slice HO236.out; subst eo11) | (go_at_call 39; (with_reducible refine (impl_PeriodFrom.calls k _ _ t233 t234 t237 _ ?side1 ?side2 A4.out).mono ?_); (case side1 => repeat (first | exact (Kd.R_reads' HO236.out).2.2 | (with_reducible refine Kd.C_alloc ?_ _) | (with_reducible refine Kd.C_drewN ?_ _) | (with_reducible refine Kd.C_drew ?_))); (case side2 => exact (Kd.R_reads' HO236.out).2.1); rintro e w12 ⟨rfl, hb⟩; have n0_ := Aside0.mk (Kd.R_below (by (with_reducible repeat (first | apply Kd.R_alloc | apply Kd.R_drewN | apply Kd.R_drew)); exact HO236.out) hb); have n1_ := Aside0.mk (below_step (by repeat (first | (with_reducible first | exact HB.out | apply below_alloc | apply pw_below_drewN | apply below_drew1) | exact HB.out)) hb); clear HO236; clear HB; have HO236 := n0_; have HB := n1_; clear n0_ n1_; (try clear hb); (try clear hb2); (try clear hk); (try clear hi)) | (go_at_call 37; (with_reducible refine (spec_PeriodFrom.calls k _ _ t233 t234 t238 _ ?side1 ?side2 A5.out).mono ?_); (case side1 => repeat (first | exact (Kd.R_reads' HO236.out).2.2 | (with_reducible refine Kd.C_alloc ?_ _) | (with_reducible refine Kd.C_drewN ?_ _) | (with_reducible refine Kd.C_drew ?_))); (case side2 => exact (Kd.R_reads' HO236.out).2.1); rintro e w13 ⟨rfl, hb⟩; have n0_ := Aside0.mk (Kd.R_below (by (with_reducible repeat (first | apply Kd.R_alloc | apply Kd.R_drewN | apply Kd.R_drew)); exact HO236.out) hb); have n1_ := Aside0.mk (below_step (by repeat (first | (with_reducible first | exact HB.out | apply below_alloc | apply pw_below_drewN | apply below_drew1) | exact HB.out)) hb); clear HO236; clear HB; have HO236 := n0_; have HB := n1_; clear n0_ n1_; (try clear hb); (try clear hb2); (try clear hk); (try clear hi)) | (go_at_call 21; (with_reducible refine (laws_alive.calls k  t239 _ A9.out).mono ?_); rintro e w14 ⟨rfl, hb⟩; have n0_ := Aside0.mk (Kd.R_below (by (with_reducible repeat (first | apply Kd.R_alloc | apply Kd.R_drewN | apply Kd.R_drew)); exact HO236.out) hb); have n1_ := Aside0.mk (below_step (by repeat (first | (with_reducible first | exact HB.out | apply below_alloc | apply pw_below_drewN | apply below_drew1) | exact HB.out)) hb); clear HO236; clear HB; have HO236 := n0_; have HB := n1_; clear n0_ n1_; (try clear hb); (try clear hb2); (try clear hk); (try clear hi)))
          repeat (go_quiet (first | (go_at_call 46; (with_reducible refine (spec_DrawPeriodFrom.calls k _ _ l0 t233 t234 _ ?side1 ?side2 A3.out).mono ?_); (case side1 => repeat (first | exact HR0.out | (with_reducible refine Kd.C_alloc ?_ _) | (with_reducible refine Kd.C_drewN ?_ _) | (with_reducible refine Kd.C_drew ?_))); (case side2 => exact HC0.out); rintro e w10 ⟨v235, rfl, ho0, hb⟩; have n0_ := Aside0.mk (Kd.R_lower ho0 (below_size (by repeat (first | (with_reducible first | exact HB.out | apply below_alloc | apply pw_below_drewN | apply below_drew1) | exact HB.out)))); have n1_ := Aside0.mk (below_step (by repeat (first | (with_reducible first | exact HB.out | apply below_alloc | apply pw_below_drewN | apply below_drew1) | exact HB.out)) hb); clear HB; have HO236 := n0_; have HB := n1_; clear n0_ n1_; (try clear hb); (try clear hb2); (try clear hk); (try clear hi); (try clear ho0); obtain ⟨Ao11, co11, eo11⟩ := Kd.R_slice HO236.out; subst eo11) | (go_at_call 39; (with_reducible refine (impl_PeriodFrom.calls k _ _ t233 t234 t237 _ ?side1 ?side2 A4.out).mono ?_); (case side1 => repeat (first | exact (Kd.R_reads' HO236.out).2.2 | (with_reducible refine Kd.C_alloc ?_ _) | (with_reducible refine Kd.C_drewN ?_ _) | (with_reducible refine Kd.C_drew ?_))); (case side2 => exact (Kd.R_reads' HO236.out).2.1); rintro e w12 ⟨rfl, hb⟩; have n0_ := Aside0.mk (Kd.R_below (by (with_reducible repeat (first | apply Kd.R_alloc | apply Kd.R_drewN | apply Kd.R_drew)); exact HO236.out) hb); have n1_ := Aside0.mk (below_step (by repeat (first | (with_reducible first | exact HB.out | apply below_alloc | apply pw_below_drewN | apply below_drew1) | exact HB.out)) hb); clear HO236; clear HB; have HO236 := n0_; have HB := n1_; clear n0_ n1_; (try clear hb); (try clear hb2); (try clear hk); (try clear hi)) | (go_at_call 37; (with_reducible refine (spec_PeriodFrom.calls k _ _ t233 t234 t238 _ ?side1 ?side2 A5.out).mono ?_); (case side1 => repeat (first | exact (Kd.R_reads' HO236.out).2.2 | (with_reducible refine Kd.C_alloc ?_ _) | (with_reducible refine Kd.C_drewN ?_ _) | (with_reducible refine Kd.C_drew ?_))); (case side2 => exact (Kd.R_reads' HO236.out).2.1); rintro e w13 ⟨rfl, hb⟩; have n0_ := Aside0.mk (Kd.R_below (by (with_reducible repeat (first | apply Kd.R_alloc | apply Kd.R_drewN | apply Kd.R_drew)); exact HO236.out) hb); have n1_ := Aside0.mk (below_step (by repeat (first | (with_reducible first | exact HB.out | apply below_alloc | apply pw_below_drewN | apply below_drew1) | exact HB.out)) hb); clear HO236; clear HB; have HO236 := n0_; have HB := n1_; clear n0_ n1_; (try clear hb); (try clear hb2); (try clear hk); (try clear hi)) | (go_at_call 21; (with_reducible refine (laws_alive.calls k  t239 _ A9.out).mono ?_); rintro e w14 ⟨rfl, hb⟩; have n0_ := Aside0.mk (Kd.R_below (by (with_reducible repeat (first | apply Kd.R_alloc | apply Kd.R_drewN | apply Kd.R_drew)); exact HO236.out) hb); have n1_ := Aside0.mk (below_step (by repeat (first | (with_reducible first | exact HB.out | apply below_alloc | apply pw_below_drewN | apply below_drew1) | exact HB.out)) hb); clear HO236; clear HB; have HO236 := n0_; have HB := n1_; clear n0_ n1_; (try clear hb); (try clear hb2); (try clear hk); (try clear hi))); try go_wp2_with (first | (go_at_call 46; (with_reducible refine (spec_DrawPeriodFrom.calls k _ _ l0 t233 t234 _ ?side1 ?side2 A3.out).mono ?_); (case side1 => repeat (first | exact HR0.out | (with_reducible refine Kd.C_alloc ?_ _) | (with_reducible refine Kd.C_drewN ?_ _) | (with_reducible refine Kd.C_drew ?_))); (case side2 => exact HC0.out); rintro e w10 ⟨v235, rfl, ho0, hb⟩; have n0_ := Aside0.mk (Kd.R_lower ho0 (below_size (by repeat (first | (with_reducible first | exact HB.out | apply below_alloc | apply pw_below_drewN | apply below_drew1) | exact HB.out)))); have n1_ := Aside0.mk (below_step (by repeat (first | (with_reducible first | exact HB.out | apply below_alloc | apply pw_below_drewN | apply below_drew1) | exact HB.out)) hb); clear HB; have HO236 := n0_; have HB := n1_; clear n0_ n1_; (try clear hb); (try clear hb2); (try clear hk); (try clear hi); (try clear ho0); obtain ⟨Ao11, co11, eo11⟩ := Kd.R_slice HO236.out; subst eo11) | (go_at_call 39; (with_reducible refine (impl_PeriodFrom.calls k _ _ t233 t234 t237 _ ?side1 ?side2 A4.out).mono ?_); (case side1 => repeat (first | exact (Kd.R_reads' HO236.out).2.2 | (with_reducible refine Kd.C_alloc ?_ _) | (with_reducible refine Kd.C_drewN ?_ _) | (with_reducible refine Kd.C_drew ?_))); (case side2 => exact (Kd.R_reads' HO236.out).2.1); rintro e w12 ⟨rfl, hb⟩; have n0_ := Aside0.mk (Kd.R_below (by (with_reducible repeat (first | apply Kd.R_alloc | apply Kd.R_drewN | apply Kd.R_drew)); exact HO236.out) hb); have n1_ := Aside0.mk (below_step (by repeat (first | (with_reducible first | exact HB.out | apply below_alloc | apply pw_below_drewN | apply below_drew1) | exact HB.out)) hb); clear HO236; clear HB; have HO236 := n0_; have HB := n1_; clear n0_ n1_; (try clear hb); (try clear hb2); (try clear hk); (try clear hi)) | (go_at_call 37; (with_reducible refine (spec_PeriodFrom.calls k _ _ t233 t234 t238 _ ?side1 ?side2 A5.out).mono ?_); (case side1 => repeat (first | exact (Kd.R_reads' HO236.out).2.2 | (with_reducible refine Kd.C_alloc ?_ _) | (with_reducible refine Kd.C_drewN ?_ _) | (with_reducible refine Kd.C_drew ?_))); (case side2 => exact (Kd.R_reads' HO236.out).2.1); rintro e w13 ⟨rfl, hb⟩; have n0_ := Aside0.mk (Kd.R_below (by (with_reducible repeat (first | apply Kd.R_alloc | apply Kd.R_drewN | apply Kd.R_drew)); exact HO236.out) hb); have n1_ := Aside0.mk (below_step (by repeat (first | (with_reducible first | exact HB.out | apply below_alloc | apply pw_below_drewN | apply below_drew1) | exact HB.out)) hb); clear HO236; clear HB; have HO236 := n0_; have HB := n1_; clear n0_ n1_; (try clear hb); (try clear hb2); (try clear hk); (try clear hi)) | (go_at_call 21; (with_reducible refine (laws_alive.calls k  t239 _ A9.out).mono ?_); rintro e w14 ⟨rfl, hb⟩; have n0_ := Aside0.mk (Kd.R_below (by (with_reducible repeat (first | apply Kd.R_alloc | apply Kd.R_drewN | apply Kd.R_drew)); exact HO236.out) hb); have n1_ := Aside0.mk (below_step (by repeat (first | (with_reducible first | exact HB.out | apply below_alloc | apply pw_below_drewN | apply below_drew1) | exact HB.out)) hb); clear HO236; clear HB; have HO236 := n0_; have HB := n1_; clear n0_ n1_; (try clear hb); (try clear hb2); (try clear hk); (try clear hi))))
          go_ret
          exact ⟨by first | rfl | (simp [errW_none, errW_some] <;> rfl) | (simp [*, errW_none, errW_some] <;> rfl), by repeat (first | (with_reducible first | exact HB.out | apply below_alloc | apply pw_below_drewN | apply below_drew1) | exact HB.out)⟩
        · rw [if_neg c8] at H
          have c8b0 : (t237 == (-1)) = false := beq_eq_false_iff_ne.mpr c8
          have c8b1 : (t237 != (-1)) = true := bne_iff_ne.mpr c8
          obtain rfl := Option.some.inj H
          go_enter Try.func14, Try.ntmps14
          go_wp2_with (first | (go_at_call 46; (with_reducible refine (spec_DrawPeriodFrom.calls k _ _ l0 t233 t234 _ ?side1 ?side2 A3.out).mono ?_); (case side1 => repeat (first | exact HR0.out | (with_reducible refine Kd.C_alloc ?_ _) | (with_reducible refine Kd.C_drewN ?_ _) | (with_reducible refine Kd.C_drew ?_))); (case side2 => exact HC0.out); rintro e w15 ⟨v235, rfl, ho0, hb⟩; have n0_ := Aside0.mk (Kd.R_lower ho0 (below_size (by repeat (first | (with_reducible first | exact HB.out | apply below_alloc | apply pw_below_drewN | apply below_drew1) | exact HB.out)))); have n1_ := Aside0.mk (below_step (by repeat (first | (with_reducible first | exact HB.out | apply below_alloc | apply pw_below_drewN | apply below_drew1) | exact HB.out)) hb); clear HB; have HO236 := n0_; have HB := n1_; clear n0_ n1_; (try clear hb); (try clear hb2); (try clear hk); (try clear hi); (try clear ho0); obtain ⟨Ao16, co16, eo16⟩ := Kd.R_slice HO236.out; subst eo16) | (go_at_call 39; (with_reducible refine (impl_PeriodFrom.calls k _ _ t233 t234 t237 _ ?side1 ?side2 A4.out).mono ?_); (case side1 => repeat (first | exact (Kd.R_reads' HO236.out).2.2 | (with_reducible refine Kd.C_alloc ?_ _) | (with_reducible refine Kd.C_drewN ?_ _) | (with_reducible refine Kd.C_drew ?_))); (case side2 => exact (Kd.R_reads' HO236.out).2.1); rintro e w17 ⟨rfl, hb⟩; have n0_ := Aside0.mk (Kd.R_below (by (with_reducible repeat (first | apply Kd.R_alloc | apply Kd.R_drewN | apply Kd.R_drew)); exact HO236.out) hb); have n1_ := Aside0.mk (below_step (by repeat (first | (with_reducible first | exact HB.out | apply below_alloc | apply pw_below_drewN | apply below_drew1) | exact HB.out)) hb); clear HO236; clear HB; have HO236 := n0_; have HB := n1_; clear n0_ n1_; (try clear hb); (try clear hb2); (try clear hk); (try clear hi)) | (go_at_call 37; (with_reducible refine (spec_PeriodFrom.calls k _ _ t233 t234 t238 _ ?side1 ?side2 A5.out).mono ?_); (case side1 => repeat (first | exact (Kd.R_reads' HO236.out).2.2 | (with_reducible refine Kd.C_alloc ?_ _) | (with_reducible refine Kd.C_drewN ?_ _) | (with_reducible refine Kd.C_drew ?_))); (case side2 => exact (Kd.R_reads' HO236.out).2.1); rintro e w18 ⟨rfl, hb⟩; have n0_ := Aside0.mk (Kd.R_below (by (with_reducible repeat (first | apply Kd.R_alloc | apply Kd.R_drewN | apply Kd.R_drew)); exact HO236.out) hb); have n1_ := Aside0.mk (below_step (by repeat (first | (with_reducible first | exact HB.out | apply below_alloc | apply pw_below_drewN | apply below_drew1) | exact HB.out)) hb); clear HO236; clear HB; have HO236 := n0_; have HB := n1_; clear n0_ n1_; (try clear hb); (try clear hb2); (try clear hk); (try clear hi)))
          repeat (go_quiet (first | (go_at_call 46; (with_reducible refine (spec_DrawPeriodFrom.calls k _ _ l0 t233 t234 _ ?side1 ?side2 A3.out).mono ?_); (case side1 => repeat (first | exact HR0.out | (with_reducible refine Kd.C_alloc ?_ _) | (with_reducible refine Kd.C_drewN ?_ _) | (with_reducible refine Kd.C_drew ?_))); (case side2 => exact HC0.out); rintro e w15 ⟨v235, rfl, ho0, hb⟩; have n0_ := Aside0.mk (Kd.R_lower ho0 (below_size (by repeat (first | (with_reducible first | exact HB.out | apply below_alloc | apply pw_below_drewN | apply below_drew1) | exact HB.out)))); have n1_ := Aside0.mk (below_step (by repeat (first | (with_reducible first | exact HB.out | apply below_alloc | apply pw_below_drewN | apply below_drew1) | exact HB.out)) hb); clear HB; have HO236 := n0_; have HB := n1_; clear n0_ n1_; (try clear hb); (try clear hb2); (try clear hk); (try clear hi); (try clear ho0); obtain ⟨Ao16, co16, eo16⟩ := Kd.R_slice HO236.out; subst eo16) | (go_at_call 39; (with_reducible refine (impl_PeriodFrom.calls k _ _ t233 t234 t237 _ ?side1 ?side2 A4.out).mono ?_); (case side1 => repeat (first | exact (Kd.R_reads' HO236.out).2.2 | (with_reducible refine Kd.C_alloc ?_ _) | (with_reducible refine Kd.C_drewN ?_ _) | (with_reducible refine Kd.C_drew ?_))); (case side2 => exact (Kd.R_reads' HO236.out).2.1); rintro e w17 ⟨rfl, hb⟩; have n0_ := Aside0.mk (Kd.R_below (by (with_reducible repeat (first | apply Kd.R_alloc | apply Kd.R_drewN | apply Kd.R_drew)); exact HO236.out) hb); have n1_ := Aside0.mk (below_step (by repeat (first | (with_reducible first | exact HB.out | apply below_alloc | apply pw_below_drewN | apply below_drew1) | exact HB.out)) hb); clear HO236; clear HB; have HO236 := n0_; have HB := n1_; clear n0_ n1_; (try clear hb); (try clear hb2); (try clear hk); (try clear hi)) | (go_at_call 37; (with_reducible refine (spec_PeriodFrom.calls k _ _ t233 t234 t238 _ ?side1 ?side2 A5.out).mono ?_); (case side1 => repeat (first | exact (Kd.R_reads' HO236.out).2.2 | (with_reducible refine Kd.C_alloc ?_ _) | (with_reducible refine Kd.C_drewN ?_ _) | (with_reducible refine Kd.C_drew ?_))); (case side2 => exact (Kd.R_reads' HO236.out).2.1); rintro e w18 ⟨rfl, hb⟩; have n0_ := Aside0.mk (Kd.R_below (by (with_reducible repeat (first | apply Kd.R_alloc | apply Kd.R_drewN | apply Kd.R_drew)); exact HO236.out) hb); have n1_ := Aside0.mk (below_step (by repeat (first | (with_reducible first | exact HB.out | apply below_alloc | apply pw_below_drewN | apply below_drew1) | exact HB.out)) hb); clear HO236; clear HB; have HO236 := n0_; have HB := n1_; clear n0_ n1_; (try clear hb); (try clear hb2); (try clear hk); (try clear hi))); try go_wp2_with (first | (go_at_call 46; (with_reducible refine (spec_DrawPeriodFrom.calls k _ _ l0 t233 t234 _ ?side1 ?side2 A3.out).mono ?_); (case side1 => repeat (first | exact HR0.out | (with_reducible refine Kd.C_alloc ?_ _) | (with_reducible refine Kd.C_drewN ?_ _) | (with_reducible refine Kd.C_drew ?_))); (case side2 => exact HC0.out); rintro e w15 ⟨v235, rfl, ho0, hb⟩; have n0_ := Aside0.mk (Kd.R_lower ho0 (below_size (by repeat (first | (with_reducible first | exact HB.out | apply below_alloc | apply pw_below_drewN | apply below_drew1) | exact HB.out)))); have n1_ := Aside0.mk (below_step (by repeat (first | (with_reducible first | exact HB.out | apply below_alloc | apply pw_below_drewN | apply below_drew1) | exact HB.out)) hb); clear HB; have HO236 := n0_; have HB := n1_; clear n0_ n1_; (try clear hb); (try clear hb2); (try clear hk); (try clear hi); (try clear ho0); obtain ⟨Ao16, co16, eo16⟩ := Kd.R_slice HO236.out; subst eo16) | (go_at_call 39; (with_reducible refine (impl_PeriodFrom.calls k _ _ t233 t234 t237 _ ?side1 ?side2 A4.out).mono ?_); (case side1 => repeat (first | exact (Kd.R_reads' HO236.out).2.2 | (with_reducible refine Kd.C_alloc ?_ _) | (with_reducible refine Kd.C_drewN ?_ _) | (with_reducible refine Kd.C_drew ?_))); (case side2 => exact (Kd.R_reads' HO236.out).2.1); rintro e w17 ⟨rfl, hb⟩; have n0_ := Aside0.mk (Kd.R_below (by (with_reducible repeat (first | apply Kd.R_alloc | apply Kd.R_drewN | apply Kd.R_drew)); exact HO236.out) hb); have n1_ := Aside0.mk (below_step (by repeat (first | (with_reducible first | exact HB.out | apply below_alloc | apply pw_below_drewN | apply below_drew1) | exact HB.out)) hb); clear HO236; clear HB; have HO236 := n0_; have HB := n1_; clear n0_ n1_; (try clear hb); (try clear hb2); (try clear hk); (try clear hi)) | (go_at_call 37; (with_reducible refine (spec_PeriodFrom.calls k _ _ t233 t234 t238 _ ?side1 ?side2 A5.out).mono ?_); (case side1 => repeat (first | exact (Kd.R_reads' HO236.out).2.2 | (with_reducible refine Kd.C_alloc ?_ _) | (with_reducible refine Kd.C_drewN ?_ _) | (with_reducible refine Kd.C_drew ?_))); (case side2 => exact (Kd.R_reads' HO236.out).2.1); rintro e w18 ⟨rfl, hb⟩; have n0_ := Aside0.mk (Kd.R_below (by (with_reducible repeat (first | apply Kd.R_alloc | apply Kd.R_drewN | apply Kd.R_drew)); exact HO236.out) hb); have n1_ := Aside0.mk (below_step (by repeat (first | (with_reducible first | exact HB.out | apply below_alloc | apply pw_below_drewN | apply below_drew1) | exact HB.out)) hb); clear HO236; clear HB; have HO236 := n0_; have HB := n1_; clear n0_ n1_; (try clear hb); (try clear hb2); (try clear hk); (try clear hi))))
          go_ret
          exact ⟨by first | rfl | (simp [errW_none, errW_some] <;> rfl) | (simp [*, errW_none, errW_some] <;> rfl), by repeat (first | (with_reducible first | exact HB.out | apply below_alloc | apply pw_below_drewN | apply below_drew1) | exact HB.out)⟩
      · rw [if_neg c7] at H
        have c7b0 : decide (t237 < 0) = false := decide_eq_false c7
        clear c7
        by_cases c19 : 0 ≤ t234
        · rw [if_pos c19] at H
          have c19b0 := eq_true c19
          have c19b1 : decide (0 ≤ t234) = true := decide_eq_true c19
          clear c19
          by_cases c20 : t234 ≤ (t233.length : Int)
          · rw [if_pos c20] at H
            have c20b0 := eq_true c20
            have c20b1 : decide (t234 ≤ (t233.length : Int)) = true := decide_eq_true c20
            clear c20
            obtain ⟨y240, hy240⟩ : ∃ y_ : List (S52), y_ = (t233.drop (t234 : Int).toNat) := ⟨_, rfl⟩
            replace H : ((spec_BusyOf.f k y240).bind fun t244 => (if t234 < (t233.length : Int) then (laws_FnPeriodFrom.l0 k t233 t234 t237 t244 (wrap64 (((rd_T52 t233 t234).f0) + t237)) false t234) else (none))) = some r := by first | (rw [hy240]; with_reducible exact H) | (have H2_ := (Option.bind_some _ _).symm.trans H; rw [hy240]; with_reducible exact H2_) | (have H2_ := (Option.bind_some _ _).symm.trans H; with_reducible exact H2_) | with_reducible exact H | (rw [hy240]; exact H) | exact H
            have Ny240 := Aside0.mk hy240
            clear hy240
            replace H := Option.bind_eq_some_iff.mp H
            obtain ⟨t244, A210, H⟩ := H
            replace H : (if t234 < (t233.length : Int) then (laws_FnPeriodFrom.l0 k t233 t234 t237 t244 (wrap64 (((rd_T52 t233 t234).f0) + t237)) false t234) else (none)) = some r := H
            have A21 := Aside0.mk A210
            clear A210
            by_cases c22 : t234 < (t233.length : Int)
            · rw [if_pos c22] at H
              have c22b0 : decide (t234 < (t233.length : Int)) = true := decide_eq_true c22
              clear c22
              have H' := Aside0.mk H
              clear H
              go_enter Try.func14, Try.ntmps14
              go_wp2_with (first | (go_at_call 46; (with_reducible refine (spec_DrawPeriodFrom.calls k _ _ l0 t233 t234 _ ?side1 ?side2 A3.out).mono ?_); (case side1 => repeat (first | exact HR0.out | (with_reducible refine Kd.C_alloc ?_ _) | (with_reducible refine Kd.C_drewN ?_ _) | (with_reducible refine Kd.C_drew ?_))); (case side2 => exact HC0.out); rintro e w23 ⟨v235, rfl, ho0, hb⟩; have n0_ := Aside0.mk (Kd.R_lower ho0 (below_size (by repeat (first | (with_reducible first | exact HB.out | apply below_alloc | apply pw_below_drewN | apply below_drew1) | exact HB.out)))); have n1_ := Aside0.mk (below_step (by repeat (first | (with_reducible first | exact HB.out | apply below_alloc | apply pw_below_drewN | apply below_drew1) | exact HB.out)) hb); clear HB; have HO236 := n0_; have HB := n1_; clear n0_ n1_; (try clear hb); (try clear hb2); (try clear hk); (try clear hi); (try clear ho0); obtain ⟨Ao24, co24, eo24⟩ := Kd.R_slice HO236.out; subst eo24) | (go_at_call 39; (with_reducible refine (impl_PeriodFrom.calls k _ _ t233 t234 t237 _ ?side1 ?side2 A4.out).mono ?_); (case side1 => repeat (first | exact (Kd.R_reads' HO236.out).2.2 | (with_reducible refine Kd.C_alloc ?_ _) | (with_reducible refine Kd.C_drewN ?_ _) | (with_reducible refine Kd.C_drew ?_))); (case side2 => exact (Kd.R_reads' HO236.out).2.1); rintro e w25 ⟨rfl, hb⟩; have n0_ := Aside0.mk (Kd.R_below (by (with_reducible repeat (first | apply Kd.R_alloc | apply Kd.R_drewN | apply Kd.R_drew)); exact HO236.out) hb); have n1_ := Aside0.mk (below_step (by repeat (first | (with_reducible first | exact HB.out | apply below_alloc | apply pw_below_drewN | apply below_drew1) | exact HB.out)) hb); clear HO236; clear HB; have HO236 := n0_; have HB := n1_; clear n0_ n1_; (try clear hb); (try clear hb2); (try clear hk); (try clear hi)) | (go_at_call 37; (with_reducible refine (spec_PeriodFrom.calls k _ _ t233 t234 t238 _ ?side1 ?side2 A5.out).mono ?_); (case side1 => repeat (first | exact (Kd.R_reads' HO236.out).2.2 | (with_reducible refine Kd.C_alloc ?_ _) | (with_reducible refine Kd.C_drewN ?_ _) | (with_reducible refine Kd.C_drew ?_))); (case side2 => exact (Kd.R_reads' HO236.out).2.1); rintro e w26 ⟨rfl, hb⟩; have n0_ := Aside0.mk (Kd.R_below (by (with_reducible repeat (first | apply Kd.R_alloc | apply Kd.R_drewN | apply Kd.R_drew)); exact HO236.out) hb); have n1_ := Aside0.mk (below_step (by repeat (first | (with_reducible first | exact HB.out | apply below_alloc | apply pw_below_drewN | apply below_drew1) | exact HB.out)) hb); clear HO236; clear HB; have HO236 := n0_; have HB := n1_; clear n0_ n1_; (try clear hb); (try clear hb2); (try clear hk); (try clear hi); have q27 : (t234 : Int) ≤ ((t233.length : Int) : Int) := of_decide_eq_true (by first | (with_reducible assumption) | assumption); obtain ⟨i027, hi027, _, hsz27, _⟩ := info_parts info52; have hroom27 : t233.length ≤ co24 := (Kd.R_reads' HO236.out).2.1; have hC27 : Kd.C k52 _ Ao24 t233.length t233 := (Kd.R_reads' HO236.out).2.2; have q027 : (0 : Int) ≤ (t234 : Int) := of_decide_eq_true (by first | (with_reducible assumption) | assumption); have hcut27 := cut_from (P := Try.prog) 45 52 .i64 Try.underlying45 hi027 2 hsz27 Ao24 t233.length co24 t234 q027 q27; have hr27 := Kd.C_drop (m := (t234 : Int).toNat) (c := co24) hC27 (by omega) hroom27; obtain ⟨A27, hA27⟩ : ∃ A1, A1 = (if co24 = (t234 : Int).toNat then Ao24 else (Ao24 : Option Addr).map (·.add ((t234 : Int).toNat * 2))) := ⟨_, rfl⟩; obtain ⟨c27, hc27⟩ : ∃ c1, c1 = co24 - (t234 : Int).toNat := ⟨_, rfl⟩; have hy27 : y240.length = t233.length - (t234 : Int).toNat := (by rw [Ny240.out, List.length_drop] <;> omega); rw [show (t233).drop (t234 : Int).toNat = y240 from Ny240.out.symm] at hr27; replace hr27 : Kd.C k52 _ A27 y240.length y240 := (by rw [hA27]; exact hr27); rw [← hy27, ← hA27, ← hc27] at hcut27; have HR243 := Aside0.mk hr27; have HC243 := Aside0.mk (show y240.length ≤ c27 from by rw [hy27, hc27]; exact Nat.sub_le_sub_right hroom27 _); clear hr27 hC27 hroom27 hi027 hsz27 hc27; have KY27 := Aside0.mk hy27; have KA27 := Aside0.mk hA27; clear hy27 hA27; have KL27 := Aside0.mk (show (t234 : Int).toNat ≤ t233.length from by omega); replace q27 := eq_true q27) | (go_at_call 47; (with_reducible refine (spec_BusyOf.calls k _ _ y240 t244 _ ?side1 ?side2 A21.out).mono ?_); (case side1 => repeat (first | exact (by repeat (first | (with_reducible exact HR243.out) | (with_reducible refine Kd.C_alloc ?_ _) | (with_reducible refine Kd.C_drewN ?_ _) | (with_reducible refine Kd.C_drew ?_) | exact HR243.out)) | (with_reducible refine Kd.C_alloc ?_ _) | (with_reducible refine Kd.C_drewN ?_ _) | (with_reducible refine Kd.C_drew ?_))); (case side2 => exact HC243.out); rintro e w28 ⟨v245, rfl, ho0, hb⟩; have n0_ := Aside0.mk (Kd.R_below (by (with_reducible repeat (first | apply Kd.R_alloc | apply Kd.R_drewN | apply Kd.R_drew)); exact HO236.out) hb); have n1_ := Aside0.mk (Kd.S_lower ho0 (below_size (by repeat (first | (with_reducible first | exact HB.out | apply below_alloc | apply pw_below_drewN | apply below_drew1) | exact HB.out)))); have n2_ := Aside0.mk (Kd.C_below (by repeat (first | (with_reducible exact HR243.out) | (with_reducible refine Kd.C_alloc ?_ _) | (with_reducible refine Kd.C_drewN ?_ _) | (with_reducible refine Kd.C_drew ?_) | exact HR243.out)) hb); have n3_ := Aside0.mk (below_step (by repeat (first | (with_reducible first | exact HB.out | apply below_alloc | apply pw_below_drewN | apply below_drew1) | exact HB.out)) hb); clear HO236; clear HR243; clear HB; have HO236 := n0_; have HO246 := n1_; have HR243 := n2_; have HB := n3_; clear n0_ n1_ n2_ n3_; (try clear hb); (try clear hb2); (try clear hk); (try clear hi); (try clear ho0); have p247 : 0 ≤ (t234 : Int) := of_decide_eq_true (by first | (with_reducible assumption) | assumption); have q247 : t234 < (t233.length : Int) := of_decide_eq_true (by first | (with_reducible assumption) | assumption); obtain ⟨ad247, e247, hx247_0, hx247_1⟩ := at_T52 (Kd.R_reads' HO236.out).2.2 t234 p247 q247; cases e247; replace p247 := eq_true p247; replace q247 := eq_true q247))
              repeat (go_quiet (first | (go_at_call 46; (with_reducible refine (spec_DrawPeriodFrom.calls k _ _ l0 t233 t234 _ ?side1 ?side2 A3.out).mono ?_); (case side1 => repeat (first | exact HR0.out | (with_reducible refine Kd.C_alloc ?_ _) | (with_reducible refine Kd.C_drewN ?_ _) | (with_reducible refine Kd.C_drew ?_))); (case side2 => exact HC0.out); rintro e w23 ⟨v235, rfl, ho0, hb⟩; have n0_ := Aside0.mk (Kd.R_lower ho0 (below_size (by repeat (first | (with_reducible first | exact HB.out | apply below_alloc | apply pw_below_drewN | apply below_drew1) | exact HB.out)))); have n1_ := Aside0.mk (below_step (by repeat (first | (with_reducible first | exact HB.out | apply below_alloc | apply pw_below_drewN | apply below_drew1) | exact HB.out)) hb); clear HB; have HO236 := n0_; have HB := n1_; clear n0_ n1_; (try clear hb); (try clear hb2); (try clear hk); (try clear hi); (try clear ho0); obtain ⟨Ao24, co24, eo24⟩ := Kd.R_slice HO236.out; subst eo24) | (go_at_call 39; (with_reducible refine (impl_PeriodFrom.calls k _ _ t233 t234 t237 _ ?side1 ?side2 A4.out).mono ?_); (case side1 => repeat (first | exact (Kd.R_reads' HO236.out).2.2 | (with_reducible refine Kd.C_alloc ?_ _) | (with_reducible refine Kd.C_drewN ?_ _) | (with_reducible refine Kd.C_drew ?_))); (case side2 => exact (Kd.R_reads' HO236.out).2.1); rintro e w25 ⟨rfl, hb⟩; have n0_ := Aside0.mk (Kd.R_below (by (with_reducible repeat (first | apply Kd.R_alloc | apply Kd.R_drewN | apply Kd.R_drew)); exact HO236.out) hb); have n1_ := Aside0.mk (below_step (by repeat (first | (with_reducible first | exact HB.out | apply below_alloc | apply pw_below_drewN | apply below_drew1) | exact HB.out)) hb); clear HO236; clear HB; have HO236 := n0_; have HB := n1_; clear n0_ n1_; (try clear hb); (try clear hb2); (try clear hk); (try clear hi)) | (go_at_call 37; (with_reducible refine (spec_PeriodFrom.calls k _ _ t233 t234 t238 _ ?side1 ?side2 A5.out).mono ?_); (case side1 => repeat (first | exact (Kd.R_reads' HO236.out).2.2 | (with_reducible refine Kd.C_alloc ?_ _) | (with_reducible refine Kd.C_drewN ?_ _) | (with_reducible refine Kd.C_drew ?_))); (case side2 => exact (Kd.R_reads' HO236.out).2.1); rintro e w26 ⟨rfl, hb⟩; have n0_ := Aside0.mk (Kd.R_below (by (with_reducible repeat (first | apply Kd.R_alloc | apply Kd.R_drewN | apply Kd.R_drew)); exact HO236.out) hb); have n1_ := Aside0.mk (below_step (by repeat (first | (with_reducible first | exact HB.out | apply below_alloc | apply pw_below_drewN | apply below_drew1) | exact HB.out)) hb); clear HO236; clear HB; have HO236 := n0_; have HB := n1_; clear n0_ n1_; (try clear hb); (try clear hb2); (try clear hk); (try clear hi); have q27 : (t234 : Int) ≤ ((t233.length : Int) : Int) := of_decide_eq_true (by first | (with_reducible assumption) | assumption); obtain ⟨i027, hi027, _, hsz27, _⟩ := info_parts info52; have hroom27 : t233.length ≤ co24 := (Kd.R_reads' HO236.out).2.1; have hC27 : Kd.C k52 _ Ao24 t233.length t233 := (Kd.R_reads' HO236.out).2.2; have q027 : (0 : Int) ≤ (t234 : Int) := of_decide_eq_true (by first | (with_reducible assumption) | assumption); have hcut27 := cut_from (P := Try.prog) 45 52 .i64 Try.underlying45 hi027 2 hsz27 Ao24 t233.length co24 t234 q027 q27; have hr27 := Kd.C_drop (m := (t234 : Int).toNat) (c := co24) hC27 (by omega) hroom27; obtain ⟨A27, hA27⟩ : ∃ A1, A1 = (if co24 = (t234 : Int).toNat then Ao24 else (Ao24 : Option Addr).map (·.add ((t234 : Int).toNat * 2))) := ⟨_, rfl⟩; obtain ⟨c27, hc27⟩ : ∃ c1, c1 = co24 - (t234 : Int).toNat := ⟨_, rfl⟩; have hy27 : y240.length = t233.length - (t234 : Int).toNat := (by rw [Ny240.out, List.length_drop] <;> omega); rw [show (t233).drop (t234 : Int).toNat = y240 from Ny240.out.symm] at hr27; replace hr27 : Kd.C k52 _ A27 y240.length y240 := (by rw [hA27]; exact hr27); rw [← hy27, ← hA27, ← hc27] at hcut27; have HR243 := Aside0.mk hr27; have HC243 := Aside0.mk (show y240.length ≤ c27 from by rw [hy27, hc27]; exact Nat.sub_le_sub_right hroom27 _); clear hr27 hC27 hroom27 hi027 hsz27 hc27; have KY27 := Aside0.mk hy27; have KA27 := Aside0.mk hA27; clear hy27 hA27; have KL27 := Aside0.mk (show (t234 : Int).toNat ≤ t233.length from by omega); replace q27 := eq_true q27) | (go_at_call 47; (with_reducible refine (spec_BusyOf.calls k _ _ y240 t244 _ ?side1 ?side2 A21.out).mono ?_); (case side1 => repeat (first | exact (by repeat (first | (with_reducible exact HR243.out) | (with_reducible refine Kd.C_alloc ?_ _) | (with_reducible refine Kd.C_drewN ?_ _) | (with_reducible refine Kd.C_drew ?_) | exact HR243.out)) | (with_reducible refine Kd.C_alloc ?_ _) | (with_reducible refine Kd.C_drewN ?_ _) | (with_reducible refine Kd.C_drew ?_))); (case side2 => exact HC243.out); rintro e w28 ⟨v245, rfl, ho0, hb⟩; have n0_ := Aside0.mk (Kd.R_below (by (with_reducible repeat (first | apply Kd.R_alloc | apply Kd.R_drewN | apply Kd.R_drew)); exact HO236.out) hb); have n1_ := Aside0.mk (Kd.S_lower ho0 (below_size (by repeat (first | (with_reducible first | exact HB.out | apply below_alloc | apply pw_below_drewN | apply below_drew1) | exact HB.out)))); have n2_ := Aside0.mk (Kd.C_below (by repeat (first | (with_reducible exact HR243.out) | (with_reducible refine Kd.C_alloc ?_ _) | (with_reducible refine Kd.C_drewN ?_ _) | (with_reducible refine Kd.C_drew ?_) | exact HR243.out)) hb); have n3_ := Aside0.mk (below_step (by repeat (first | (with_reducible first | exact HB.out | apply below_alloc | apply pw_below_drewN | apply below_drew1) | exact HB.out)) hb); clear HO236; clear HR243; clear HB; have HO236 := n0_; have HO246 := n1_; have HR243 := n2_; have HB := n3_; clear n0_ n1_ n2_ n3_; (try clear hb); (try clear hb2); (try clear hk); (try clear hi); (try clear ho0); have p247 : 0 ≤ (t234 : Int) := of_decide_eq_true (by first | (with_reducible assumption) | assumption); have q247 : t234 < (t233.length : Int) := of_decide_eq_true (by first | (with_reducible assumption) | assumption); obtain ⟨ad247, e247, hx247_0, hx247_1⟩ := at_T52 (Kd.R_reads' HO236.out).2.2 t234 p247 q247; cases e247; replace p247 := eq_true p247; replace q247 := eq_true q247)); try go_wp2_with (first | (go_at_call 46; (with_reducible refine (spec_DrawPeriodFrom.calls k _ _ l0 t233 t234 _ ?side1 ?side2 A3.out).mono ?_); (case side1 => repeat (first | exact HR0.out | (with_reducible refine Kd.C_alloc ?_ _) | (with_reducible refine Kd.C_drewN ?_ _) | (with_reducible refine Kd.C_drew ?_))); (case side2 => exact HC0.out); rintro e w23 ⟨v235, rfl, ho0, hb⟩; have n0_ := Aside0.mk (Kd.R_lower ho0 (below_size (by repeat (first | (with_reducible first | exact HB.out | apply below_alloc | apply pw_below_drewN | apply below_drew1) | exact HB.out)))); have n1_ := Aside0.mk (below_step (by repeat (first | (with_reducible first | exact HB.out | apply below_alloc | apply pw_below_drewN | apply below_drew1) | exact HB.out)) hb); clear HB; have HO236 := n0_; have HB := n1_; clear n0_ n1_; (try clear hb); (try clear hb2); (try clear hk); (try clear hi); (try clear ho0); obtain ⟨Ao24, co24, eo24⟩ := Kd.R_slice HO236.out; subst eo24) | (go_at_call 39; (with_reducible refine (impl_PeriodFrom.calls k _ _ t233 t234 t237 _ ?side1 ?side2 A4.out).mono ?_); (case side1 => repeat (first | exact (Kd.R_reads' HO236.out).2.2 | (with_reducible refine Kd.C_alloc ?_ _) | (with_reducible refine Kd.C_drewN ?_ _) | (with_reducible refine Kd.C_drew ?_))); (case side2 => exact (Kd.R_reads' HO236.out).2.1); rintro e w25 ⟨rfl, hb⟩; have n0_ := Aside0.mk (Kd.R_below (by (with_reducible repeat (first | apply Kd.R_alloc | apply Kd.R_drewN | apply Kd.R_drew)); exact HO236.out) hb); have n1_ := Aside0.mk (below_step (by repeat (first | (with_reducible first | exact HB.out | apply below_alloc | apply pw_below_drewN | apply below_drew1) | exact HB.out)) hb); clear HO236; clear HB; have HO236 := n0_; have HB := n1_; clear n0_ n1_; (try clear hb); (try clear hb2); (try clear hk); (try clear hi)) | (go_at_call 37; (with_reducible refine (spec_PeriodFrom.calls k _ _ t233 t234 t238 _ ?side1 ?side2 A5.out).mono ?_); (case side1 => repeat (first | exact (Kd.R_reads' HO236.out).2.2 | (with_reducible refine Kd.C_alloc ?_ _) | (with_reducible refine Kd.C_drewN ?_ _) | (with_reducible refine Kd.C_drew ?_))); (case side2 => exact (Kd.R_reads' HO236.out).2.1); rintro e w26 ⟨rfl, hb⟩; have n0_ := Aside0.mk (Kd.R_below (by (with_reducible repeat (first | apply Kd.R_alloc | apply Kd.R_drewN | apply Kd.R_drew)); exact HO236.out) hb); have n1_ := Aside0.mk (below_step (by repeat (first | (with_reducible first | exact HB.out | apply below_alloc | apply pw_below_drewN | apply below_drew1) | exact HB.out)) hb); clear HO236; clear HB; have HO236 := n0_; have HB := n1_; clear n0_ n1_; (try clear hb); (try clear hb2); (try clear hk); (try clear hi); have q27 : (t234 : Int) ≤ ((t233.length : Int) : Int) := of_decide_eq_true (by first | (with_reducible assumption) | assumption); obtain ⟨i027, hi027, _, hsz27, _⟩ := info_parts info52; have hroom27 : t233.length ≤ co24 := (Kd.R_reads' HO236.out).2.1; have hC27 : Kd.C k52 _ Ao24 t233.length t233 := (Kd.R_reads' HO236.out).2.2; have q027 : (0 : Int) ≤ (t234 : Int) := of_decide_eq_true (by first | (with_reducible assumption) | assumption); have hcut27 := cut_from (P := Try.prog) 45 52 .i64 Try.underlying45 hi027 2 hsz27 Ao24 t233.length co24 t234 q027 q27; have hr27 := Kd.C_drop (m := (t234 : Int).toNat) (c := co24) hC27 (by omega) hroom27; obtain ⟨A27, hA27⟩ : ∃ A1, A1 = (if co24 = (t234 : Int).toNat then Ao24 else (Ao24 : Option Addr).map (·.add ((t234 : Int).toNat * 2))) := ⟨_, rfl⟩; obtain ⟨c27, hc27⟩ : ∃ c1, c1 = co24 - (t234 : Int).toNat := ⟨_, rfl⟩; have hy27 : y240.length = t233.length - (t234 : Int).toNat := (by rw [Ny240.out, List.length_drop] <;> omega); rw [show (t233).drop (t234 : Int).toNat = y240 from Ny240.out.symm] at hr27; replace hr27 : Kd.C k52 _ A27 y240.length y240 := (by rw [hA27]; exact hr27); rw [← hy27, ← hA27, ← hc27] at hcut27; have HR243 := Aside0.mk hr27; have HC243 := Aside0.mk (show y240.length ≤ c27 from by rw [hy27, hc27]; exact Nat.sub_le_sub_right hroom27 _); clear hr27 hC27 hroom27 hi027 hsz27 hc27; have KY27 := Aside0.mk hy27; have KA27 := Aside0.mk hA27; clear hy27 hA27; have KL27 := Aside0.mk (show (t234 : Int).toNat ≤ t233.length from by omega); replace q27 := eq_true q27) | (go_at_call 47; (with_reducible refine (spec_BusyOf.calls k _ _ y240 t244 _ ?side1 ?side2 A21.out).mono ?_); (case side1 => repeat (first | exact (by repeat (first | (with_reducible exact HR243.out) | (with_reducible refine Kd.C_alloc ?_ _) | (with_reducible refine Kd.C_drewN ?_ _) | (with_reducible refine Kd.C_drew ?_) | exact HR243.out)) | (with_reducible refine Kd.C_alloc ?_ _) | (with_reducible refine Kd.C_drewN ?_ _) | (with_reducible refine Kd.C_drew ?_))); (case side2 => exact HC243.out); rintro e w28 ⟨v245, rfl, ho0, hb⟩; have n0_ := Aside0.mk (Kd.R_below (by (with_reducible repeat (first | apply Kd.R_alloc | apply Kd.R_drewN | apply Kd.R_drew)); exact HO236.out) hb); have n1_ := Aside0.mk (Kd.S_lower ho0 (below_size (by repeat (first | (with_reducible first | exact HB.out | apply below_alloc | apply pw_below_drewN | apply below_drew1) | exact HB.out)))); have n2_ := Aside0.mk (Kd.C_below (by repeat (first | (with_reducible exact HR243.out) | (with_reducible refine Kd.C_alloc ?_ _) | (with_reducible refine Kd.C_drewN ?_ _) | (with_reducible refine Kd.C_drew ?_) | exact HR243.out)) hb); have n3_ := Aside0.mk (below_step (by repeat (first | (with_reducible first | exact HB.out | apply below_alloc | apply pw_below_drewN | apply below_drew1) | exact HB.out)) hb); clear HO236; clear HR243; clear HB; have HO236 := n0_; have HO246 := n1_; have HR243 := n2_; have HB := n3_; clear n0_ n1_ n2_ n3_; (try clear hb); (try clear hb2); (try clear hk); (try clear hi); (try clear ho0); have p247 : 0 ≤ (t234 : Int) := of_decide_eq_true (by first | (with_reducible assumption) | assumption); have q247 : t234 < (t233.length : Int) := of_decide_eq_true (by first | (with_reducible assumption) | assumption); obtain ⟨ad247, e247, hx247_0, hx247_1⟩ := at_T52 (Kd.R_reads' HO236.out).2.2 t234 p247 q247; cases e247; replace p247 := eq_true p247; replace q247 := eq_true q247)))
              go_loopg [8, 9] k (fun kq v8 v9 w' => ∃ (x8_1 : Bool) (x9_1 : Int), v8 = .bool x8_1 ∧ v9 = .int .i64 x9_1 ∧ Aside0 (laws_FnPeriodFrom.l0 kq t233 t234 t237 t244 (wrap64 (((rd_T52 t233 t234).f0) + t237)) x8_1 x9_1 = some r) ∧ Aside0 (kq ≤ k) ∧ Aside0 (Kd.R k52 52 w' w.heap.size (fun _ => True) (.slice (some ad247) t233.length co24) t233) ∧ Aside0 (Kd.S (Kd.slice 3 (Kd.int .i64)) 38 w' w.heap.size (fun _ => True) v245 t244) ∧ Aside0 (Kd.C k52 w' A27 y240.length y240) ∧ Aside0 (Below w.heap.size w w'))
              case atStart => exact ⟨(false), (t234), (by first | rfl | (simp; done) | (simp [*]; done)), (by first | rfl | (simp; done) | (simp [*]; done)), H', ⟨Nat.le_refl _⟩, ⟨by (with_reducible repeat (first | apply Kd.R_alloc | apply Kd.R_drewN | apply Kd.R_drew)); exact HO236.out⟩, ⟨by (with_reducible repeat (first | apply Kd.S_alloc | apply Kd.S_drewN | apply Kd.S_drew)); exact HO246.out⟩, ⟨by repeat (first | (with_reducible exact HR243.out) | (with_reducible refine Kd.C_alloc ?_ _) | (with_reducible refine Kd.C_drewN ?_ _) | (with_reducible refine Kd.C_drew ?_) | exact HR243.out)⟩, ⟨by repeat (first | (with_reducible first | exact HB.out | apply below_alloc | apply pw_below_drewN | apply below_drew1) | exact HB.out)⟩⟩
              case round =>
                clear H'
                try clear c1
                try clear c2
                try clear c2b0
                try clear c2b1
                try clear p2
                try clear q2
                try clear hx2
                try clear c6
                try clear c6b0
                try clear c6b1
                try clear p6
                try clear c7
                try clear c7b0
                try clear c8
                try clear c8b0
                try clear c8b1
                try clear c14
                try clear c19
                try clear c19b0
                try clear c19b1
                try clear c20
                try clear c20b0
                try clear c20b1
                try clear c22
                try clear c22b0
                try clear p24
                try clear q24
                try clear hx24
                try clear c27
                try clear q27
                try clear hx247_0
                try clear hx247_1
                try clear p247
                try clear q027
                try clear q247
                try clear q27
                obtain ⟨x8_1, x9_1, rfl, rfl, HA, HK1, HO_3, HO_6, HR243, HB⟩ := hrel
                cases gk with
                | zero => exact absurd HA.out (by simp [laws_FnPeriodFrom.l0])
                | succ k1 =>
                  have H := HA.out
                  clear HA
                  simp only [laws_FnPeriodFrom.l0] at H
                  by_cases c29 : x9_1 < (t233.length : Int)
                  · rw [if_pos c29] at H
                    have c29b0 : decide (x9_1 < (t233.length : Int)) = true := decide_eq_true c29
                    clear c29
                    by_cases c30 : x8_1 = true
                    · subst c30
                      have H1 : (laws_FnPeriodFrom.l0 k1 t233 t234 t237 t244 (wrap64 (((rd_T52 t233 t234).f0) + t237)) true (wrap64 (x9_1 + 1))) = some r := by rw [if_pos rfl] at H; exact H
                      clear H
                      have H := H1
                      clear H1
                      have H' := Aside0.mk H
                      clear H
                      go_wp2
                      repeat (go_quiet (fail); try go_wp2)
                      go_roundg k1
                      case measure => have := HK1.out; omega
                      case rel => exact ⟨(true), (wrap64 (x9_1 + 1)), (by first | rfl | (simp; done) | (simp [*]; done)), (by first | rfl | (simp; done) | (simp [*]; done)), H', ⟨by have := HK1.out; omega⟩, ⟨by (with_reducible repeat (first | apply Kd.R_alloc | apply Kd.R_drewN | apply Kd.R_drew)); exact HO_3.out⟩, ⟨by (with_reducible repeat (first | apply Kd.S_alloc | apply Kd.S_drewN | apply Kd.S_drew)); exact HO_6.out⟩, ⟨by repeat (first | (with_reducible exact HR243.out) | (with_reducible refine Kd.C_alloc ?_ _) | (with_reducible refine Kd.C_drewN ?_ _) | (with_reducible refine Kd.C_drew ?_) | exact HR243.out)⟩, ⟨by repeat (first | (with_reducible first | exact HB.out | apply below_alloc | apply pw_below_drewN | apply below_drew1) | exact HB.out)⟩⟩
                    · replace c30 := Bool.eq_false_iff.mpr c30
                      subst c30
                      have H1 : (if 0 ≤ x9_1 then (laws_FnPeriodFrom.l0 k1 t233 t234 t237 t244 (wrap64 (((rd_T52 t233 t234).f0) + t237)) (((rd_T52 t233 x9_1).f0) == (wrap64 (((rd_T52 t233 t234).f0) + t237))) (wrap64 (x9_1 + 1))) else (none)) = some r := by rw [if_neg (show ¬ (false = true) by decide)] at H; exact H
                      clear H
                      have H := H1
                      clear H1
                      by_cases c31 : 0 ≤ x9_1
                      · rw [if_pos c31] at H
                        have c31b0 : decide (0 ≤ x9_1) = true := decide_eq_true c31
                        clear c31
                        have H' := Aside0.mk H
                        clear H
                        have p248 : 0 ≤ (x9_1 : Int) := of_decide_eq_true (by first | (with_reducible assumption) | assumption)
                        have q248 : x9_1 < (t233.length : Int) := of_decide_eq_true (by first | (with_reducible assumption) | assumption)
                        obtain ⟨ad248, e248, hx248_0, hx248_1⟩ := at_T52 (Kd.R_reads' HO_3.out).2.2 x9_1 p248 q248
                        obtain rfl : ad247 = ad248 := (by injection e248)
                        replace p248 := eq_true p248
                        replace q248 := eq_true q248
                        go_wp2
                        repeat (go_quiet (fail); try go_wp2)
                        go_roundg k1
                        case measure => have := HK1.out; omega
                        case rel => exact ⟨((((rd_T52 t233 x9_1).f0) == (wrap64 (((rd_T52 t233 t234).f0) + t237)))), (wrap64 (x9_1 + 1)), (by first | rfl | (simp; done) | (simp [*]; done)), (by first | rfl | (simp; done) | (simp [*]; done)), H', ⟨by have := HK1.out; omega⟩, ⟨by (with_reducible repeat (first | apply Kd.R_alloc | apply Kd.R_drewN | apply Kd.R_drew)); exact HO_3.out⟩, ⟨by (with_reducible repeat (first | apply Kd.S_alloc | apply Kd.S_drewN | apply Kd.S_drew)); exact HO_6.out⟩, ⟨by repeat (first | (with_reducible exact HR243.out) | (with_reducible refine Kd.C_alloc ?_ _) | (with_reducible refine Kd.C_drewN ?_ _) | (with_reducible refine Kd.C_drew ?_) | exact HR243.out)⟩, ⟨by repeat (first | (with_reducible first | exact HB.out | apply below_alloc | apply pw_below_drewN | apply below_drew1) | exact HB.out)⟩⟩
                      · rw [if_neg c31] at H
                        exact absurd H (by simp)
                  · rw [if_neg c29] at H
                    have c29b0 : decide (x9_1 < (t233.length : Int)) = false := decide_eq_false c29
                    clear c29
                    by_cases c32 : 0 ≤ t234
                    · rw [if_pos c32] at H
                      have c32b0 : decide (0 ≤ t234) = true := decide_eq_true c32
                      clear c32
                      by_cases c33 : t234 < (t233.length : Int)
                      · rw [if_pos c33] at H
                        have c33b0 : decide (t234 < (t233.length : Int)) = true := decide_eq_true c33
                        clear c33
                        by_cases c34 : t237 ≥ ((rd_T52 t233 t234).f1)
                        · rw [if_pos c34] at H
                          have c34b0 : decide (((rd_T52 t233 t234).f1) ≤ t237) = true := decide_eq_true c34
                          clear c34
                          by_cases c35 : (t244.length : Int) > 0
                          · rw [if_pos c35] at H
                            have c35b0 : decide (0 < (t244.length : Int)) = true := decide_eq_true c35
                            have c35b1 : decide (0 < t244.length) = true := decide_eq_true (by omega)
                            clear c35
                            by_cases c36 : 0 < (t244.length : Int)
                            · rw [if_pos c36] at H
                              have c36b0 : decide (0 < (t244.length : Int)) = true := decide_eq_true c36
                              have c36b1 : decide (0 < t244.length) = true := decide_eq_true (by omega)
                              clear c36
                              by_cases c37 : 0 < ((rd_L3 t244 0).length : Int)
                              · rw [if_pos c37] at H
                                have c37b0 : decide (0 < ((rd_L3 t244 0).length : Int)) = true := decide_eq_true c37
                                have c37b1 : decide (0 < (rd_L3 t244 0).length) = true := decide_eq_true (by omega)
                                clear c37
                                by_cases c38 : (rd (rd_L3 t244 0) 0) = ((rd_T52 t233 t234).f0)
                                · rw [if_pos c38] at H
                                  have c38b0 : ((rd (rd_L3 t244 0) 0) == ((rd_T52 t233 t234).f0)) = true := beq_iff_eq.mpr c38
                                  have c38b1 : ((rd (rd_L3 t244 0) 0) != ((rd_T52 t233 t234).f0)) = false := bne_eq_false_iff_eq.mpr c38
                                  clear c38
                                  by_cases c39 : 1 < ((rd_L3 t244 0).length : Int)
                                  · rw [if_pos c39] at H
                                    have c39b0 : decide (1 < ((rd_L3 t244 0).length : Int)) = true := decide_eq_true c39
                                    have c39b1 : decide (1 < (rd_L3 t244 0).length) = true := decide_eq_true (by omega)
                                    clear c39
                                    by_cases c40 : (rd (rd_L3 t244 0) 1) ≥ (wrap64 (((rd_T52 t233 t234).f0) + t237))
                                    · rw [if_pos c40] at H
                                      have c40b0 : decide ((wrap64 (((rd_T52 t233 t234).f0) + t237)) ≤ (rd (rd_L3 t244 0) 1)) = true := decide_eq_true c40
                                      clear c40
                                      by_cases c41 : x8_1 = true
                                      · subst c41
                                        have H1 : (some true) = some r := by rw [if_pos rfl] at H; exact H
                                        clear H
                                        have H := H1
                                        clear H1
                                        obtain rfl := Option.some.inj H
                                        have p249 : 0 ≤ (t234 : Int) := of_decide_eq_true (by first | (with_reducible assumption) | assumption)
                                        have q249 : t234 < (t233.length : Int) := of_decide_eq_true (by first | (with_reducible assumption) | assumption)
                                        obtain ⟨ad249, e249, hx249_0, hx249_1⟩ := at_T52 (Kd.R_reads' HO_3.out).2.2 t234 p249 q249
                                        obtain rfl : ad247 = ad249 := (by injection e249)
                                        replace p249 := eq_true p249
                                        replace q249 := eq_true q249
                                        obtain ⟨Ao42, co42, eo42⟩ := Kd.S_slice HO_6.out
                                        subst eo42
                                        have p250 : 0 ≤ (0 : Int) := (by omega)
                                        have q250 : 0 < (t244.length : Int) := of_decide_eq_true (by first | (with_reducible assumption) | assumption)
                                        obtain ⟨ad250, A250_0, c250_0, e250, hx250_0, hl250_0, hi250_0⟩ := at_L3 (Kd.S_reads' HO_6.out).2.2 0 p250 q250
                                        cases e250
                                        obtain ⟨ce250, hce250, hMe250, hcc250⟩ := Kd.S_get HO_6.out [] 0 p250 (by first | exact q250 | exact of_decide_eq_true (by first | (with_reducible assumption) | assumption) | (have e_ := (Kd.S_reads' HO_6.out).1; omega))
                                        obtain ⟨ve250_0, rfl, ge250_0⟩ := hMe250
                                        have hv250_0 := hcc250 0 _ rfl
                                        rw [Nat.add_zero, show ((Kd.slice 3 (Kd.int .i64))).sz = 1 from rfl, Nat.mul_one] at hv250_0
                                        replace hv250_0 := Option.some.inj (hv250_0.symm.trans hx250_0)
                                        rw [hv250_0] at ge250_0
                                        have HL250_0 := Aside0.mk (show Kd.R (Kd.int .i64) 3 _ _ _ _ (rd_L3 t244 0) from ge250_0)
                                        clear hv250_0 ge250_0
                                        clear hcc250 hce250
                                        have qi250 : (0 < t244.length) = True := eq_true (by omega)
                                        (try rw [show ((0 : Int)).toNat = 0 from rfl] at hx250_0)
                                        (try rw [Addr.add_zero'] at hx250_0)
                                        have HR250_0 := Aside0.mk hi250_0
                                        have HC250_0 := Aside0.mk hl250_0
                                        clear hi250_0 hl250_0
                                        replace p250 := eq_true p250
                                        replace q250 := eq_true q250
                                        have p251 : 0 ≤ (0 : Int) := (by omega)
                                        have q251 : 0 < ((rd_L3 t244 0).length : Int) := of_decide_eq_true (by first | (with_reducible assumption) | assumption)
                                        obtain ⟨ad251, e251, hx251_0⟩ := Kd.at_int (by repeat (first | (with_reducible exact HR250_0.out) | (with_reducible refine Kd.C_alloc ?_ _) | (with_reducible refine Kd.C_drewN ?_ _) | (with_reducible refine Kd.C_drew ?_) | exact HR250_0.out)) 0 p251 q251
                                        cases e251
                                        have qi251 : (0 < (rd_L3 t244 0).length) = True := eq_true (by omega)
                                        (try rw [show ((0 : Int)).toNat = 0 from rfl] at hx251_0)
                                        (try rw [Addr.add_zero'] at hx251_0)
                                        replace p251 := eq_true p251
                                        replace q251 := eq_true q251
                                        have p252 : 0 ≤ (t234 : Int) := of_decide_eq_true (by first | (with_reducible assumption) | assumption)
                                        have q252 : t234 < (t233.length : Int) := of_decide_eq_true (by first | (with_reducible assumption) | assumption)
                                        obtain ⟨ad252, e252, hx252_0, hx252_1⟩ := at_T52 (Kd.R_reads' HO_3.out).2.2 t234 p252 q252
                                        obtain rfl : ad247 = ad252 := (by injection e252)
                                        replace p252 := eq_true p252
                                        replace q252 := eq_true q252
                                        have p253 : 0 ≤ (0 : Int) := (by omega)
                                        have q253 : 0 < (t244.length : Int) := of_decide_eq_true (by first | (with_reducible assumption) | assumption)
                                        obtain ⟨ad253, A253_0, c253_0, e253, hx253_0, hl253_0, hi253_0⟩ := at_L3 (Kd.S_reads' HO_6.out).2.2 0 p253 q253
                                        obtain rfl : ad250 = ad253 := (by injection e253)
                                        obtain ⟨ce253, hce253, hMe253, hcc253⟩ := Kd.S_get HO_6.out [] 0 p253 (by first | exact q253 | exact of_decide_eq_true (by first | (with_reducible assumption) | assumption) | (have e_ := (Kd.S_reads' HO_6.out).1; omega))
                                        obtain ⟨ve253_0, rfl, ge253_0⟩ := hMe253
                                        have hv253_0 := hcc253 0 _ rfl
                                        rw [Nat.add_zero, show ((Kd.slice 3 (Kd.int .i64))).sz = 1 from rfl, Nat.mul_one] at hv253_0
                                        replace hv253_0 := Option.some.inj (hv253_0.symm.trans hx253_0)
                                        rw [hv253_0] at ge253_0
                                        have HL253_0 := Aside0.mk (show Kd.R (Kd.int .i64) 3 _ _ _ _ (rd_L3 t244 0) from ge253_0)
                                        clear hv253_0 ge253_0
                                        clear hcc253 hce253
                                        have qi253 : (0 < t244.length) = True := eq_true (by omega)
                                        (try rw [show ((0 : Int)).toNat = 0 from rfl] at hx253_0)
                                        (try rw [Addr.add_zero'] at hx253_0)
                                        have HR253_0 := Aside0.mk hi253_0
                                        have HC253_0 := Aside0.mk hl253_0
                                        clear hi253_0 hl253_0
                                        replace p253 := eq_true p253
                                        replace q253 := eq_true q253
                                        have ea_ := Option.some.inj (hx250_0.symm.trans hx253_0)
                                        injection ea_ with ea_ en_ ec_
                                        subst ea_
                                        subst ec_
                                        clear en_
                                        have p254 : 0 ≤ (1 : Int) := (by omega)
                                        have q254 : 1 < ((rd_L3 t244 0).length : Int) := of_decide_eq_true (by first | (with_reducible assumption) | assumption)
                                        obtain ⟨ad254, e254, hx254_0⟩ := Kd.at_int (by repeat (first | (with_reducible exact HR253_0.out) | (with_reducible refine Kd.C_alloc ?_ _) | (with_reducible refine Kd.C_drewN ?_ _) | (with_reducible refine Kd.C_drew ?_) | exact HR253_0.out)) 1 p254 q254
                                        cases e254
                                        (try simp only [show (1 : Int).toNat = 1 from rfl, Nat.reduceMul, Nat.reduceEqDiff, Go.Addr.add, ↓reduceIte] at hx254_0)
                                        have qi254 : (1 < (rd_L3 t244 0).length) = True := eq_true (by omega)
                                        (try rw [show ((1 : Int)).toNat = 1 from rfl] at hx254_0)
                                        replace p254 := eq_true p254
                                        replace q254 := eq_true q254
                                        go_wp2
                                        repeat (go_quiet (fail); try go_wp2)
                                        go_ret
                                        exact ⟨by first | rfl | (simp [errW_none, errW_some] <;> rfl) | (simp [*, errW_none, errW_some] <;> rfl), by repeat (first | (with_reducible first | exact HB.out | apply below_alloc | apply pw_below_drewN | apply below_drew1) | exact HB.out)⟩
                                      · replace c41 := Bool.eq_false_iff.mpr c41
                                        subst c41
                                        have H1 : (some ((rd (rd_L3 t244 0) 1) == (wrap64 (((rd_T52 t233 t234).f0) + t237)))) = some r := by rw [if_neg (show ¬ (false = true) by decide)] at H; exact H
                                        clear H
                                        have H := H1
                                        clear H1
                                        obtain rfl := Option.some.inj H
                                        have p249 : 0 ≤ (t234 : Int) := of_decide_eq_true (by first | (with_reducible assumption) | assumption)
                                        have q249 : t234 < (t233.length : Int) := of_decide_eq_true (by first | (with_reducible assumption) | assumption)
                                        obtain ⟨ad249, e249, hx249_0, hx249_1⟩ := at_T52 (Kd.R_reads' HO_3.out).2.2 t234 p249 q249
                                        obtain rfl : ad247 = ad249 := (by injection e249)
                                        replace p249 := eq_true p249
                                        replace q249 := eq_true q249
                                        obtain ⟨Ao43, co43, eo43⟩ := Kd.S_slice HO_6.out
                                        subst eo43
                                        have p250 : 0 ≤ (0 : Int) := (by omega)
                                        have q250 : 0 < (t244.length : Int) := of_decide_eq_true (by first | (with_reducible assumption) | assumption)
                                        obtain ⟨ad250, A250_0, c250_0, e250, hx250_0, hl250_0, hi250_0⟩ := at_L3 (Kd.S_reads' HO_6.out).2.2 0 p250 q250
                                        cases e250
                                        obtain ⟨ce250, hce250, hMe250, hcc250⟩ := Kd.S_get HO_6.out [] 0 p250 (by first | exact q250 | exact of_decide_eq_true (by first | (with_reducible assumption) | assumption) | (have e_ := (Kd.S_reads' HO_6.out).1; omega))
                                        obtain ⟨ve250_0, rfl, ge250_0⟩ := hMe250
                                        have hv250_0 := hcc250 0 _ rfl
                                        rw [Nat.add_zero, show ((Kd.slice 3 (Kd.int .i64))).sz = 1 from rfl, Nat.mul_one] at hv250_0
                                        replace hv250_0 := Option.some.inj (hv250_0.symm.trans hx250_0)
                                        rw [hv250_0] at ge250_0
                                        have HL250_0 := Aside0.mk (show Kd.R (Kd.int .i64) 3 _ _ _ _ (rd_L3 t244 0) from ge250_0)
                                        clear hv250_0 ge250_0
                                        clear hcc250 hce250
                                        have qi250 : (0 < t244.length) = True := eq_true (by omega)
                                        (try rw [show ((0 : Int)).toNat = 0 from rfl] at hx250_0)
                                        (try rw [Addr.add_zero'] at hx250_0)
                                        have HR250_0 := Aside0.mk hi250_0
                                        have HC250_0 := Aside0.mk hl250_0
                                        clear hi250_0 hl250_0
                                        replace p250 := eq_true p250
                                        replace q250 := eq_true q250
                                        have p251 : 0 ≤ (0 : Int) := (by omega)
                                        have q251 : 0 < ((rd_L3 t244 0).length : Int) := of_decide_eq_true (by first | (with_reducible assumption) | assumption)
                                        obtain ⟨ad251, e251, hx251_0⟩ := Kd.at_int (by repeat (first | (with_reducible exact HR250_0.out) | (with_reducible refine Kd.C_alloc ?_ _) | (with_reducible refine Kd.C_drewN ?_ _) | (with_reducible refine Kd.C_drew ?_) | exact HR250_0.out)) 0 p251 q251
                                        cases e251
                                        have qi251 : (0 < (rd_L3 t244 0).length) = True := eq_true (by omega)
                                        (try rw [show ((0 : Int)).toNat = 0 from rfl] at hx251_0)
                                        (try rw [Addr.add_zero'] at hx251_0)
                                        replace p251 := eq_true p251
                                        replace q251 := eq_true q251
                                        have p252 : 0 ≤ (t234 : Int) := of_decide_eq_true (by first | (with_reducible assumption) | assumption)
                                        have q252 : t234 < (t233.length : Int) := of_decide_eq_true (by first | (with_reducible assumption) | assumption)
                                        obtain ⟨ad252, e252, hx252_0, hx252_1⟩ := at_T52 (Kd.R_reads' HO_3.out).2.2 t234 p252 q252
                                        obtain rfl : ad247 = ad252 := (by injection e252)
                                        replace p252 := eq_true p252
                                        replace q252 := eq_true q252
                                        have p253 : 0 ≤ (0 : Int) := (by omega)
                                        have q253 : 0 < (t244.length : Int) := of_decide_eq_true (by first | (with_reducible assumption) | assumption)
                                        obtain ⟨ad253, A253_0, c253_0, e253, hx253_0, hl253_0, hi253_0⟩ := at_L3 (Kd.S_reads' HO_6.out).2.2 0 p253 q253
                                        obtain rfl : ad250 = ad253 := (by injection e253)
                                        obtain ⟨ce253, hce253, hMe253, hcc253⟩ := Kd.S_get HO_6.out [] 0 p253 (by first | exact q253 | exact of_decide_eq_true (by first | (with_reducible assumption) | assumption) | (have e_ := (Kd.S_reads' HO_6.out).1; omega))
                                        obtain ⟨ve253_0, rfl, ge253_0⟩ := hMe253
                                        have hv253_0 := hcc253 0 _ rfl
                                        rw [Nat.add_zero, show ((Kd.slice 3 (Kd.int .i64))).sz = 1 from rfl, Nat.mul_one] at hv253_0
                                        replace hv253_0 := Option.some.inj (hv253_0.symm.trans hx253_0)
                                        rw [hv253_0] at ge253_0
                                        have HL253_0 := Aside0.mk (show Kd.R (Kd.int .i64) 3 _ _ _ _ (rd_L3 t244 0) from ge253_0)
                                        clear hv253_0 ge253_0
                                        clear hcc253 hce253
                                        have qi253 : (0 < t244.length) = True := eq_true (by omega)
                                        (try rw [show ((0 : Int)).toNat = 0 from rfl] at hx253_0)
                                        (try rw [Addr.add_zero'] at hx253_0)
                                        have HR253_0 := Aside0.mk hi253_0
                                        have HC253_0 := Aside0.mk hl253_0
                                        clear hi253_0 hl253_0
                                        replace p253 := eq_true p253
                                        replace q253 := eq_true q253
                                        have ea_ := Option.some.inj (hx250_0.symm.trans hx253_0)
                                        injection ea_ with ea_ en_ ec_
                                        subst ea_
                                        subst ec_
                                        clear en_
                                        have p254 : 0 ≤ (1 : Int) := (by omega)
                                        have q254 : 1 < ((rd_L3 t244 0).length : Int) := of_decide_eq_true (by first | (with_reducible assumption) | assumption)
                                        obtain ⟨ad254, e254, hx254_0⟩ := Kd.at_int (by repeat (first | (with_reducible exact HR253_0.out) | (with_reducible refine Kd.C_alloc ?_ _) | (with_reducible refine Kd.C_drewN ?_ _) | (with_reducible refine Kd.C_drew ?_) | exact HR253_0.out)) 1 p254 q254
                                        cases e254
                                        (try simp only [show (1 : Int).toNat = 1 from rfl, Nat.reduceMul, Nat.reduceEqDiff, Go.Addr.add, ↓reduceIte] at hx254_0)
                                        have qi254 : (1 < (rd_L3 t244 0).length) = True := eq_true (by omega)
                                        (try rw [show ((1 : Int)).toNat = 1 from rfl] at hx254_0)
                                        replace p254 := eq_true p254
                                        replace q254 := eq_true q254
                                        have p255 : 0 ≤ (0 : Int) := (by omega)
                                        have q255 : 0 < (t244.length : Int) := of_decide_eq_true (by first | (with_reducible assumption) | assumption)
                                        obtain ⟨ad255, A255_0, c255_0, e255, hx255_0, hl255_0, hi255_0⟩ := at_L3 (Kd.S_reads' HO_6.out).2.2 0 p255 q255
                                        obtain rfl : ad250 = ad255 := (by injection e255)
                                        obtain ⟨ce255, hce255, hMe255, hcc255⟩ := Kd.S_get HO_6.out [] 0 p255 (by first | exact q255 | exact of_decide_eq_true (by first | (with_reducible assumption) | assumption) | (have e_ := (Kd.S_reads' HO_6.out).1; omega))
                                        obtain ⟨ve255_0, rfl, ge255_0⟩ := hMe255
                                        have hv255_0 := hcc255 0 _ rfl
                                        rw [Nat.add_zero, show ((Kd.slice 3 (Kd.int .i64))).sz = 1 from rfl, Nat.mul_one] at hv255_0
                                        replace hv255_0 := Option.some.inj (hv255_0.symm.trans hx255_0)
                                        rw [hv255_0] at ge255_0
                                        have HL255_0 := Aside0.mk (show Kd.R (Kd.int .i64) 3 _ _ _ _ (rd_L3 t244 0) from ge255_0)
                                        clear hv255_0 ge255_0
                                        clear hcc255 hce255
                                        have qi255 : (0 < t244.length) = True := eq_true (by omega)
                                        (try rw [show ((0 : Int)).toNat = 0 from rfl] at hx255_0)
                                        (try rw [Addr.add_zero'] at hx255_0)
                                        have HR255_0 := Aside0.mk hi255_0
                                        have HC255_0 := Aside0.mk hl255_0
                                        clear hi255_0 hl255_0
                                        replace p255 := eq_true p255
                                        replace q255 := eq_true q255
                                        have ea_ := Option.some.inj (hx250_0.symm.trans hx255_0)
                                        injection ea_ with ea_ en_ ec_
                                        subst ea_
                                        subst ec_
                                        clear en_
                                        have p256 : 0 ≤ (1 : Int) := (by omega)
                                        have q256 : 1 < ((rd_L3 t244 0).length : Int) := of_decide_eq_true (by first | (with_reducible assumption) | assumption)
                                        obtain ⟨ad256, e256, hx256_0⟩ := Kd.at_int (by repeat (first | (with_reducible exact HR255_0.out) | (with_reducible refine Kd.C_alloc ?_ _) | (with_reducible refine Kd.C_drewN ?_ _) | (with_reducible refine Kd.C_drew ?_) | exact HR255_0.out)) 1 p256 q256
                                        cases e256
                                        (try simp only [show (1 : Int).toNat = 1 from rfl, Nat.reduceMul, Nat.reduceEqDiff, Go.Addr.add, ↓reduceIte] at hx256_0)
                                        have qi256 : (1 < (rd_L3 t244 0).length) = True := eq_true (by omega)
                                        (try rw [show ((1 : Int)).toNat = 1 from rfl] at hx256_0)
                                        replace p256 := eq_true p256
                                        replace q256 := eq_true q256
                                        go_wp2
                                        repeat (go_quiet (fail); try go_wp2)
                                        go_ret
                                        exact ⟨by first | rfl | (simp [errW_none, errW_some] <;> rfl) | (simp [*, errW_none, errW_some] <;> rfl), by repeat (first | (with_reducible first | exact HB.out | apply below_alloc | apply pw_below_drewN | apply below_drew1) | exact HB.out)⟩
                                    · rw [if_neg c40] at H
                                      have c40b0 : decide ((wrap64 (((rd_T52 t233 t234).f0) + t237)) ≤ (rd (rd_L3 t244 0) 1)) = false := decide_eq_false c40
                                      clear c40
                                      obtain rfl := Option.some.inj H
                                      have p249 : 0 ≤ (t234 : Int) := of_decide_eq_true (by first | (with_reducible assumption) | assumption)
                                      have q249 : t234 < (t233.length : Int) := of_decide_eq_true (by first | (with_reducible assumption) | assumption)
                                      obtain ⟨ad249, e249, hx249_0, hx249_1⟩ := at_T52 (Kd.R_reads' HO_3.out).2.2 t234 p249 q249
                                      obtain rfl : ad247 = ad249 := (by injection e249)
                                      replace p249 := eq_true p249
                                      replace q249 := eq_true q249
                                      obtain ⟨Ao44, co44, eo44⟩ := Kd.S_slice HO_6.out
                                      subst eo44
                                      have p250 : 0 ≤ (0 : Int) := (by omega)
                                      have q250 : 0 < (t244.length : Int) := of_decide_eq_true (by first | (with_reducible assumption) | assumption)
                                      obtain ⟨ad250, A250_0, c250_0, e250, hx250_0, hl250_0, hi250_0⟩ := at_L3 (Kd.S_reads' HO_6.out).2.2 0 p250 q250
                                      cases e250
                                      obtain ⟨ce250, hce250, hMe250, hcc250⟩ := Kd.S_get HO_6.out [] 0 p250 (by first | exact q250 | exact of_decide_eq_true (by first | (with_reducible assumption) | assumption) | (have e_ := (Kd.S_reads' HO_6.out).1; omega))
                                      obtain ⟨ve250_0, rfl, ge250_0⟩ := hMe250
                                      have hv250_0 := hcc250 0 _ rfl
                                      rw [Nat.add_zero, show ((Kd.slice 3 (Kd.int .i64))).sz = 1 from rfl, Nat.mul_one] at hv250_0
                                      replace hv250_0 := Option.some.inj (hv250_0.symm.trans hx250_0)
                                      rw [hv250_0] at ge250_0
                                      have HL250_0 := Aside0.mk (show Kd.R (Kd.int .i64) 3 _ _ _ _ (rd_L3 t244 0) from ge250_0)
                                      clear hv250_0 ge250_0
                                      clear hcc250 hce250
                                      have qi250 : (0 < t244.length) = True := eq_true (by omega)
                                      (try rw [show ((0 : Int)).toNat = 0 from rfl] at hx250_0)
                                      (try rw [Addr.add_zero'] at hx250_0)
                                      have HR250_0 := Aside0.mk hi250_0
                                      have HC250_0 := Aside0.mk hl250_0
                                      clear hi250_0 hl250_0
                                      replace p250 := eq_true p250
                                      replace q250 := eq_true q250
                                      have p251 : 0 ≤ (0 : Int) := (by omega)
                                      have q251 : 0 < ((rd_L3 t244 0).length : Int) := of_decide_eq_true (by first | (with_reducible assumption) | assumption)
                                      obtain ⟨ad251, e251, hx251_0⟩ := Kd.at_int (by repeat (first | (with_reducible exact HR250_0.out) | (with_reducible refine Kd.C_alloc ?_ _) | (with_reducible refine Kd.C_drewN ?_ _) | (with_reducible refine Kd.C_drew ?_) | exact HR250_0.out)) 0 p251 q251
                                      cases e251
                                      have qi251 : (0 < (rd_L3 t244 0).length) = True := eq_true (by omega)
                                      (try rw [show ((0 : Int)).toNat = 0 from rfl] at hx251_0)
                                      (try rw [Addr.add_zero'] at hx251_0)
                                      replace p251 := eq_true p251
                                      replace q251 := eq_true q251
                                      have p252 : 0 ≤ (t234 : Int) := of_decide_eq_true (by first | (with_reducible assumption) | assumption)
                                      have q252 : t234 < (t233.length : Int) := of_decide_eq_true (by first | (with_reducible assumption) | assumption)
                                      obtain ⟨ad252, e252, hx252_0, hx252_1⟩ := at_T52 (Kd.R_reads' HO_3.out).2.2 t234 p252 q252
                                      obtain rfl : ad247 = ad252 := (by injection e252)
                                      replace p252 := eq_true p252
                                      replace q252 := eq_true q252
                                      have p253 : 0 ≤ (0 : Int) := (by omega)
                                      have q253 : 0 < (t244.length : Int) := of_decide_eq_true (by first | (with_reducible assumption) | assumption)
                                      obtain ⟨ad253, A253_0, c253_0, e253, hx253_0, hl253_0, hi253_0⟩ := at_L3 (Kd.S_reads' HO_6.out).2.2 0 p253 q253
                                      obtain rfl : ad250 = ad253 := (by injection e253)
                                      obtain ⟨ce253, hce253, hMe253, hcc253⟩ := Kd.S_get HO_6.out [] 0 p253 (by first | exact q253 | exact of_decide_eq_true (by first | (with_reducible assumption) | assumption) | (have e_ := (Kd.S_reads' HO_6.out).1; omega))
                                      obtain ⟨ve253_0, rfl, ge253_0⟩ := hMe253
                                      have hv253_0 := hcc253 0 _ rfl
                                      rw [Nat.add_zero, show ((Kd.slice 3 (Kd.int .i64))).sz = 1 from rfl, Nat.mul_one] at hv253_0
                                      replace hv253_0 := Option.some.inj (hv253_0.symm.trans hx253_0)
                                      rw [hv253_0] at ge253_0
                                      have HL253_0 := Aside0.mk (show Kd.R (Kd.int .i64) 3 _ _ _ _ (rd_L3 t244 0) from ge253_0)
                                      clear hv253_0 ge253_0
                                      clear hcc253 hce253
                                      have qi253 : (0 < t244.length) = True := eq_true (by omega)
                                      (try rw [show ((0 : Int)).toNat = 0 from rfl] at hx253_0)
                                      (try rw [Addr.add_zero'] at hx253_0)
                                      have HR253_0 := Aside0.mk hi253_0
                                      have HC253_0 := Aside0.mk hl253_0
                                      clear hi253_0 hl253_0
                                      replace p253 := eq_true p253
                                      replace q253 := eq_true q253
                                      have ea_ := Option.some.inj (hx250_0.symm.trans hx253_0)
                                      injection ea_ with ea_ en_ ec_
                                      subst ea_
                                      subst ec_
                                      clear en_
                                      have p254 : 0 ≤ (1 : Int) := (by omega)
                                      have q254 : 1 < ((rd_L3 t244 0).length : Int) := of_decide_eq_true (by first | (with_reducible assumption) | assumption)
                                      obtain ⟨ad254, e254, hx254_0⟩ := Kd.at_int (by repeat (first | (with_reducible exact HR253_0.out) | (with_reducible refine Kd.C_alloc ?_ _) | (with_reducible refine Kd.C_drewN ?_ _) | (with_reducible refine Kd.C_drew ?_) | exact HR253_0.out)) 1 p254 q254
                                      cases e254
                                      (try simp only [show (1 : Int).toNat = 1 from rfl, Nat.reduceMul, Nat.reduceEqDiff, Go.Addr.add, ↓reduceIte] at hx254_0)
                                      have qi254 : (1 < (rd_L3 t244 0).length) = True := eq_true (by omega)
                                      (try rw [show ((1 : Int)).toNat = 1 from rfl] at hx254_0)
                                      replace p254 := eq_true p254
                                      replace q254 := eq_true q254
                                      go_wp2
                                      repeat (go_quiet (fail); try go_wp2)
                                      go_ret
                                      exact ⟨by first | rfl | (simp [errW_none, errW_some] <;> rfl) | (simp [*, errW_none, errW_some] <;> rfl), by repeat (first | (with_reducible first | exact HB.out | apply below_alloc | apply pw_below_drewN | apply below_drew1) | exact HB.out)⟩
                                  · rw [if_neg c39] at H
                                    exact absurd H (by simp)
                                · rw [if_neg c38] at H
                                  have c38b0 : ((rd (rd_L3 t244 0) 0) == ((rd_T52 t233 t234).f0)) = false := beq_eq_false_iff_ne.mpr c38
                                  have c38b1 : ((rd (rd_L3 t244 0) 0) != ((rd_T52 t233 t234).f0)) = true := bne_iff_ne.mpr c38
                                  obtain rfl := Option.some.inj H
                                  have p249 : 0 ≤ (t234 : Int) := of_decide_eq_true (by first | (with_reducible assumption) | assumption)
                                  have q249 : t234 < (t233.length : Int) := of_decide_eq_true (by first | (with_reducible assumption) | assumption)
                                  obtain ⟨ad249, e249, hx249_0, hx249_1⟩ := at_T52 (Kd.R_reads' HO_3.out).2.2 t234 p249 q249
                                  obtain rfl : ad247 = ad249 := (by injection e249)
                                  replace p249 := eq_true p249
                                  replace q249 := eq_true q249
                                  obtain ⟨Ao45, co45, eo45⟩ := Kd.S_slice HO_6.out
                                  subst eo45
                                  have p250 : 0 ≤ (0 : Int) := (by omega)
                                  have q250 : 0 < (t244.length : Int) := of_decide_eq_true (by first | (with_reducible assumption) | assumption)
                                  obtain ⟨ad250, A250_0, c250_0, e250, hx250_0, hl250_0, hi250_0⟩ := at_L3 (Kd.S_reads' HO_6.out).2.2 0 p250 q250
                                  cases e250
                                  obtain ⟨ce250, hce250, hMe250, hcc250⟩ := Kd.S_get HO_6.out [] 0 p250 (by first | exact q250 | exact of_decide_eq_true (by first | (with_reducible assumption) | assumption) | (have e_ := (Kd.S_reads' HO_6.out).1; omega))
                                  obtain ⟨ve250_0, rfl, ge250_0⟩ := hMe250
                                  have hv250_0 := hcc250 0 _ rfl
                                  rw [Nat.add_zero, show ((Kd.slice 3 (Kd.int .i64))).sz = 1 from rfl, Nat.mul_one] at hv250_0
                                  replace hv250_0 := Option.some.inj (hv250_0.symm.trans hx250_0)
                                  rw [hv250_0] at ge250_0
                                  have HL250_0 := Aside0.mk (show Kd.R (Kd.int .i64) 3 _ _ _ _ (rd_L3 t244 0) from ge250_0)
                                  clear hv250_0 ge250_0
                                  clear hcc250 hce250
                                  have qi250 : (0 < t244.length) = True := eq_true (by omega)
                                  (try rw [show ((0 : Int)).toNat = 0 from rfl] at hx250_0)
                                  (try rw [Addr.add_zero'] at hx250_0)
                                  have HR250_0 := Aside0.mk hi250_0
                                  have HC250_0 := Aside0.mk hl250_0
                                  clear hi250_0 hl250_0
                                  replace p250 := eq_true p250
                                  replace q250 := eq_true q250
                                  have p251 : 0 ≤ (0 : Int) := (by omega)
                                  have q251 : 0 < ((rd_L3 t244 0).length : Int) := of_decide_eq_true (by first | (with_reducible assumption) | assumption)
                                  obtain ⟨ad251, e251, hx251_0⟩ := Kd.at_int (by repeat (first | (with_reducible exact HR250_0.out) | (with_reducible refine Kd.C_alloc ?_ _) | (with_reducible refine Kd.C_drewN ?_ _) | (with_reducible refine Kd.C_drew ?_) | exact HR250_0.out)) 0 p251 q251
                                  cases e251
                                  have qi251 : (0 < (rd_L3 t244 0).length) = True := eq_true (by omega)
                                  (try rw [show ((0 : Int)).toNat = 0 from rfl] at hx251_0)
                                  (try rw [Addr.add_zero'] at hx251_0)
                                  replace p251 := eq_true p251
                                  replace q251 := eq_true q251
                                  have p252 : 0 ≤ (t234 : Int) := of_decide_eq_true (by first | (with_reducible assumption) | assumption)
                                  have q252 : t234 < (t233.length : Int) := of_decide_eq_true (by first | (with_reducible assumption) | assumption)
                                  obtain ⟨ad252, e252, hx252_0, hx252_1⟩ := at_T52 (Kd.R_reads' HO_3.out).2.2 t234 p252 q252
                                  obtain rfl : ad247 = ad252 := (by injection e252)
                                  replace p252 := eq_true p252
                                  replace q252 := eq_true q252
                                  go_wp2
                                  repeat (go_quiet (fail); try go_wp2)
                                  go_ret
                                  exact ⟨by first | rfl | (simp [errW_none, errW_some] <;> rfl) | (simp [*, errW_none, errW_some] <;> rfl), by repeat (first | (with_reducible first | exact HB.out | apply below_alloc | apply pw_below_drewN | apply below_drew1) | exact HB.out)⟩
                              · rw [if_neg c37] at H
                                exact absurd H (by simp)
                            · rw [if_neg c36] at H
                              exact absurd H (by simp)
                          · rw [if_neg c35] at H
                            have c35b0 : decide (0 < (t244.length : Int)) = false := decide_eq_false c35
                            have c35b1 : decide (0 < t244.length) = false := decide_eq_false (by omega)
                            clear c35
                            obtain rfl := Option.some.inj H
                            have p249 : 0 ≤ (t234 : Int) := of_decide_eq_true (by first | (with_reducible assumption) | assumption)
                            have q249 : t234 < (t233.length : Int) := of_decide_eq_true (by first | (with_reducible assumption) | assumption)
                            obtain ⟨ad249, e249, hx249_0, hx249_1⟩ := at_T52 (Kd.R_reads' HO_3.out).2.2 t234 p249 q249
                            obtain rfl : ad247 = ad249 := (by injection e249)
                            replace p249 := eq_true p249
                            replace q249 := eq_true q249
                            obtain ⟨Ao46, co46, eo46⟩ := Kd.S_slice HO_6.out
                            subst eo46
                            go_wp2
                            repeat (go_quiet (fail); try go_wp2)
                            go_ret
                            exact ⟨by first | rfl | (simp [errW_none, errW_some] <;> rfl) | (simp [*, errW_none, errW_some] <;> rfl), by repeat (first | (with_reducible first | exact HB.out | apply below_alloc | apply pw_below_drewN | apply below_drew1) | exact HB.out)⟩
                        · rw [if_neg c34] at H
                          have c34b0 : decide (((rd_T52 t233 t234).f1) ≤ t237) = false := decide_eq_false c34
                          clear c34
                          obtain rfl := Option.some.inj H
                          have p249 : 0 ≤ (t234 : Int) := of_decide_eq_true (by first | (with_reducible assumption) | assumption)
                          have q249 : t234 < (t233.length : Int) := of_decide_eq_true (by first | (with_reducible assumption) | assumption)
                          obtain ⟨ad249, e249, hx249_0, hx249_1⟩ := at_T52 (Kd.R_reads' HO_3.out).2.2 t234 p249 q249
                          obtain rfl : ad247 = ad249 := (by injection e249)
                          replace p249 := eq_true p249
                          replace q249 := eq_true q249
                          go_wp2
                          repeat (go_quiet (fail); try go_wp2)
                          go_ret
                          exact ⟨by first | rfl | (simp [errW_none, errW_some] <;> rfl) | (simp [*, errW_none, errW_some] <;> rfl), by repeat (first | (with_reducible first | exact HB.out | apply below_alloc | apply pw_below_drewN | apply below_drew1) | exact HB.out)⟩
                      · rw [if_neg c33] at H
                        exact absurd H (by simp)
                    · rw [if_neg c32] at H
                      exact absurd H (by simp)
            · rw [if_neg c22] at H
              exact absurd H (by simp)
          · rw [if_neg c20] at H
            exact absurd H (by simp)
        · rw [if_neg c19] at H
          exact absurd H (by simp)
    · rw [if_neg c6] at H
      have c6b0 : (t237 == t238) = false := beq_eq_false_iff_ne.mpr c6
      have c6b1 : (t237 != t238) = true := bne_iff_ne.mpr c6
      obtain rfl := Option.some.inj H
      go_enter Try.func14, Try.ntmps14
      go_wp2_with (first | (go_at_call 46; (with_reducible refine (spec_DrawPeriodFrom.calls k _ _ l0 t233 t234 _ ?side1 ?side2 A3.out).mono ?_); (case side1 => repeat (first | exact HR0.out | (with_reducible refine Kd.C_alloc ?_ _) | (with_reducible refine Kd.C_drewN ?_ _) | (with_reducible refine Kd.C_drew ?_))); (case side2 => exact HC0.out); rintro e w47 ⟨v235, rfl, ho0, hb⟩; have n0_ := Aside0.mk (Kd.R_lower ho0 (below_size (by repeat (first | (with_reducible first | exact HB.out | apply below_alloc | apply pw_below_drewN | apply below_drew1) | exact HB.out)))); have n1_ := Aside0.mk (below_step (by repeat (first | (with_reducible first | exact HB.out | apply below_alloc | apply pw_below_drewN | apply below_drew1) | exact HB.out)) hb); clear HB; have HO236 := n0_; have HB := n1_; clear n0_ n1_; (try clear hb); (try clear hb2); (try clear hk); (try clear hi); (try clear ho0); obtain ⟨Ao48, co48, eo48⟩ := Kd.R_slice HO236.out; subst eo48) | (go_at_call 39; (with_reducible refine (impl_PeriodFrom.calls k _ _ t233 t234 t237 _ ?side1 ?side2 A4.out).mono ?_); (case side1 => repeat (first | exact (Kd.R_reads' HO236.out).2.2 | (with_reducible refine Kd.C_alloc ?_ _) | (with_reducible refine Kd.C_drewN ?_ _) | (with_reducible refine Kd.C_drew ?_))); (case side2 => exact (Kd.R_reads' HO236.out).2.1); rintro e w49 ⟨rfl, hb⟩; have n0_ := Aside0.mk (Kd.R_below (by (with_reducible repeat (first | apply Kd.R_alloc | apply Kd.R_drewN | apply Kd.R_drew)); exact HO236.out) hb); have n1_ := Aside0.mk (below_step (by repeat (first | (with_reducible first | exact HB.out | apply below_alloc | apply pw_below_drewN | apply below_drew1) | exact HB.out)) hb); clear HO236; clear HB; have HO236 := n0_; have HB := n1_; clear n0_ n1_; (try clear hb); (try clear hb2); (try clear hk); (try clear hi)) | (go_at_call 37; (with_reducible refine (spec_PeriodFrom.calls k _ _ t233 t234 t238 _ ?side1 ?side2 A5.out).mono ?_); (case side1 => repeat (first | exact (Kd.R_reads' HO236.out).2.2 | (with_reducible refine Kd.C_alloc ?_ _) | (with_reducible refine Kd.C_drewN ?_ _) | (with_reducible refine Kd.C_drew ?_))); (case side2 => exact (Kd.R_reads' HO236.out).2.1); rintro e w50 ⟨rfl, hb⟩; have n0_ := Aside0.mk (Kd.R_below (by (with_reducible repeat (first | apply Kd.R_alloc | apply Kd.R_drewN | apply Kd.R_drew)); exact HO236.out) hb); have n1_ := Aside0.mk (below_step (by repeat (first | (with_reducible first | exact HB.out | apply below_alloc | apply pw_below_drewN | apply below_drew1) | exact HB.out)) hb); clear HO236; clear HB; have HO236 := n0_; have HB := n1_; clear n0_ n1_; (try clear hb); (try clear hb2); (try clear hk); (try clear hi)))
      repeat (go_quiet (first | (go_at_call 46; (with_reducible refine (spec_DrawPeriodFrom.calls k _ _ l0 t233 t234 _ ?side1 ?side2 A3.out).mono ?_); (case side1 => repeat (first | exact HR0.out | (with_reducible refine Kd.C_alloc ?_ _) | (with_reducible refine Kd.C_drewN ?_ _) | (with_reducible refine Kd.C_drew ?_))); (case side2 => exact HC0.out); rintro e w47 ⟨v235, rfl, ho0, hb⟩; have n0_ := Aside0.mk (Kd.R_lower ho0 (below_size (by repeat (first | (with_reducible first | exact HB.out | apply below_alloc | apply pw_below_drewN | apply below_drew1) | exact HB.out)))); have n1_ := Aside0.mk (below_step (by repeat (first | (with_reducible first | exact HB.out | apply below_alloc | apply pw_below_drewN | apply below_drew1) | exact HB.out)) hb); clear HB; have HO236 := n0_; have HB := n1_; clear n0_ n1_; (try clear hb); (try clear hb2); (try clear hk); (try clear hi); (try clear ho0); obtain ⟨Ao48, co48, eo48⟩ := Kd.R_slice HO236.out; subst eo48) | (go_at_call 39; (with_reducible refine (impl_PeriodFrom.calls k _ _ t233 t234 t237 _ ?side1 ?side2 A4.out).mono ?_); (case side1 => repeat (first | exact (Kd.R_reads' HO236.out).2.2 | (with_reducible refine Kd.C_alloc ?_ _) | (with_reducible refine Kd.C_drewN ?_ _) | (with_reducible refine Kd.C_drew ?_))); (case side2 => exact (Kd.R_reads' HO236.out).2.1); rintro e w49 ⟨rfl, hb⟩; have n0_ := Aside0.mk (Kd.R_below (by (with_reducible repeat (first | apply Kd.R_alloc | apply Kd.R_drewN | apply Kd.R_drew)); exact HO236.out) hb); have n1_ := Aside0.mk (below_step (by repeat (first | (with_reducible first | exact HB.out | apply below_alloc | apply pw_below_drewN | apply below_drew1) | exact HB.out)) hb); clear HO236; clear HB; have HO236 := n0_; have HB := n1_; clear n0_ n1_; (try clear hb); (try clear hb2); (try clear hk); (try clear hi)) | (go_at_call 37; (with_reducible refine (spec_PeriodFrom.calls k _ _ t233 t234 t238 _ ?side1 ?side2 A5.out).mono ?_); (case side1 => repeat (first | exact (Kd.R_reads' HO236.out).2.2 | (with_reducible refine Kd.C_alloc ?_ _) | (with_reducible refine Kd.C_drewN ?_ _) | (with_reducible refine Kd.C_drew ?_))); (case side2 => exact (Kd.R_reads' HO236.out).2.1); rintro e w50 ⟨rfl, hb⟩; have n0_ := Aside0.mk (Kd.R_below (by (with_reducible repeat (first | apply Kd.R_alloc | apply Kd.R_drewN | apply Kd.R_drew)); exact HO236.out) hb); have n1_ := Aside0.mk (below_step (by repeat (first | (with_reducible first | exact HB.out | apply below_alloc | apply pw_below_drewN | apply below_drew1) | exact HB.out)) hb); clear HO236; clear HB; have HO236 := n0_; have HB := n1_; clear n0_ n1_; (try clear hb); (try clear hb2); (try clear hk); (try clear hi))); try go_wp2_with (first | (go_at_call 46; (with_reducible refine (spec_DrawPeriodFrom.calls k _ _ l0 t233 t234 _ ?side1 ?side2 A3.out).mono ?_); (case side1 => repeat (first | exact HR0.out | (with_reducible refine Kd.C_alloc ?_ _) | (with_reducible refine Kd.C_drewN ?_ _) | (with_reducible refine Kd.C_drew ?_))); (case side2 => exact HC0.out); rintro e w47 ⟨v235, rfl, ho0, hb⟩; have n0_ := Aside0.mk (Kd.R_lower ho0 (below_size (by repeat (first | (with_reducible first | exact HB.out | apply below_alloc | apply pw_below_drewN | apply below_drew1) | exact HB.out)))); have n1_ := Aside0.mk (below_step (by repeat (first | (with_reducible first | exact HB.out | apply below_alloc | apply pw_below_drewN | apply below_drew1) | exact HB.out)) hb); clear HB; have HO236 := n0_; have HB := n1_; clear n0_ n1_; (try clear hb); (try clear hb2); (try clear hk); (try clear hi); (try clear ho0); obtain ⟨Ao48, co48, eo48⟩ := Kd.R_slice HO236.out; subst eo48) | (go_at_call 39; (with_reducible refine (impl_PeriodFrom.calls k _ _ t233 t234 t237 _ ?side1 ?side2 A4.out).mono ?_); (case side1 => repeat (first | exact (Kd.R_reads' HO236.out).2.2 | (with_reducible refine Kd.C_alloc ?_ _) | (with_reducible refine Kd.C_drewN ?_ _) | (with_reducible refine Kd.C_drew ?_))); (case side2 => exact (Kd.R_reads' HO236.out).2.1); rintro e w49 ⟨rfl, hb⟩; have n0_ := Aside0.mk (Kd.R_below (by (with_reducible repeat (first | apply Kd.R_alloc | apply Kd.R_drewN | apply Kd.R_drew)); exact HO236.out) hb); have n1_ := Aside0.mk (below_step (by repeat (first | (with_reducible first | exact HB.out | apply below_alloc | apply pw_below_drewN | apply below_drew1) | exact HB.out)) hb); clear HO236; clear HB; have HO236 := n0_; have HB := n1_; clear n0_ n1_; (try clear hb); (try clear hb2); (try clear hk); (try clear hi)) | (go_at_call 37; (with_reducible refine (spec_PeriodFrom.calls k _ _ t233 t234 t238 _ ?side1 ?side2 A5.out).mono ?_); (case side1 => repeat (first | exact (Kd.R_reads' HO236.out).2.2 | (with_reducible refine Kd.C_alloc ?_ _) | (with_reducible refine Kd.C_drewN ?_ _) | (with_reducible refine Kd.C_drew ?_))); (case side2 => exact (Kd.R_reads' HO236.out).2.1); rintro e w50 ⟨rfl, hb⟩; have n0_ := Aside0.mk (Kd.R_below (by (with_reducible repeat (first | apply Kd.R_alloc | apply Kd.R_drewN | apply Kd.R_drew)); exact HO236.out) hb); have n1_ := Aside0.mk (below_step (by repeat (first | (with_reducible first | exact HB.out | apply below_alloc | apply pw_below_drewN | apply below_drew1) | exact HB.out)) hb); clear HO236; clear HB; have HO236 := n0_; have HB := n1_; clear n0_ n1_; (try clear hb); (try clear hb2); (try clear hk); (try clear hi))))
      go_ret
      exact ⟨by first | rfl | (simp [errW_none, errW_some] <;> rfl) | (simp [*, errW_none, errW_some] <;> rfl), by repeat (first | (with_reducible first | exact HB.out | apply below_alloc | apply pw_below_drewN | apply below_drew1) | exact HB.out)⟩

/-- THE ONE PURE STATEMENT of laws_FnPeriodFrom: yours. -/
def laws_FnPeriodFrom.Pure : Prop := ∀ (l0 : List Int), l0.length ≤ maxLen → l0.length * 1 ≤ 140737488351232 → (∀ x ∈ l0, (Lit.int .u8 x).wf = true) → ∃ k, laws_FnPeriodFrom.f k l0 = some true
theorem laws_FnPeriodFrom.walk (P : laws_FnPeriodFrom.Pure) (a0 : Option Addr) (len0 cap0 : Nat) (z0 : List Int) (w : World) (w0 : (a0 = none ∧ len0 = 0 ∧ cap0 = 0 ∧ z0 = []) ∨ ∃ x, a0 = some x ∧ len0 ≤ cap0 ∧ cap0 ≤ maxLen ∧ z0.length = cap0 ∧ (∀ i, i < z0.length → w.cell? (x.add i) = some (.int .u8 (z0.getD i 0))) ∧ ∀ n ∈ z0, (Lit.int .u8 n).wf = true) (y0 : len0 * 1 ≤ 140737488351232) :
    Calls Try.prog 14 #[.slice a0 len0 cap0] w fun e w' => e = .returned (.bool true) ∧ Below w.heap.size w w' := by
  obtain ⟨l0, rfl, hr0, hm0, hw0, hc0⟩ := ReadsInt.ofRowC w0
  obtain ⟨k, h⟩ := P l0 hm0 y0 hw0
  refine (laws_FnPeriodFrom.calls k _ _ l0 true w (Kd.C_of_reads (d := (0 : Int)) (h1 := fun _ => rfl) hr0) hc0 h).mono ?_
  rintro e w' ⟨rfl, hd⟩
  exact ⟨rfl, hd⟩

end Go.Proofs.Ytbmhkhdmedemaaa.PFnPeriodFrom
