/- Contracts of the functions that the law FnWorkArea uses, written by a program of this session (wip/print2.py) over a turned copy of the kit's print; nothing is assumed. -/
import Derived.Test.YtlainmahnfnhkaaQFnWorkAreax0
import Derived.Test.YtlainmahnfnhkaaQFnWorkAreax1
import Derived.Test.YtlainmahnfnhkaaQFnWorkAreax2
namespace Go.Proofs.Ytlainmahnfnhkaa.PFnWorkArea
open Go.RowKit Go.Proofs.YtlainmahnfnhkaaW.PrintWords Go.Proofs.YtlainmahnfnhkaaW.PrintLast Go.Proofs.YtlainmahnfnhkaaW.PrintMore
attribute [local go_sem] max2_int min2_int max_two min_two max_three min_three max_four min_four   -- for this text's walks alone
set_option linter.unusedVariables false
set_option linter.unusedSimpArgs false

/-! ### spec_l3Work: function 62 -/
mutual
def spec_l3Work.l0 : Nat → List (S42) → Int → List Int → Int → Int → Option (List Int)
  | 0, _, _, _, _, _ => none
  | k + 1, x0, x1, x5, x6, x7 => if x7 ≤ x1 then (spec_l3Work.l1 k x0 x1 x5 x6 x7 0) else (some x5)
def spec_l3Work.l1 : Nat → List (S42) → Int → List Int → Int → Int → Int → Option (List Int)
  | 0, _, _, _, _, _, _ => none
  | k + 1, x0, x1, x5, x6, x7, x8 => if x8 < (x0.length : Int) then (if 0 ≤ x8 then (if ((rd_T42 x0 x8).f0) = x7 then (spec_l3Work.l1 k x0 x1 x5 (wrap64 (x6 + ((rd_T42 x0 x8).f1))) x7 (wrap64 (x8 + 1))) else (spec_l3Work.l1 k x0 x1 x5 x6 x7 (wrap64 (x8 + 1)))) else (none)) else (if x5.length < 17592186044416 then (spec_l3Work.l0 k x0 x1 (x5 ++ [x6]) (mx (wrap64 (x6 - 1)) 0) (wrap64 (x7 + 1))) else (none))
end
def spec_l3Work.f (k : Nat) (l0 : List (S42)) (a1 : Int) : Option (List Int) := spec_l3Work.l0 k l0 a1 (([] : List Int)) 0 0
theorem spec_l3Work.mono_l : ∀ k, (∀ y0 y1 y2 y3 y4, LeO (spec_l3Work.l0 k y0 y1 y2 y3 y4) (spec_l3Work.l0 (k + 1) y0 y1 y2 y3 y4)) ∧ (∀ y0 y1 y2 y3 y4 y5, LeO (spec_l3Work.l1 k y0 y1 y2 y3 y4 y5) (spec_l3Work.l1 (k + 1) y0 y1 y2 y3 y4 y5))
  | 0 => ⟨fun _ _ _ _ _ r h => by simp [spec_l3Work.l0] at h, fun _ _ _ _ _ _ r h => by simp [spec_l3Work.l1] at h⟩
  | k + 1 => by
    obtain ⟨ih0, ih1⟩ := spec_l3Work.mono_l k
    refine ⟨?_, ?_⟩
    · intro y0 y1 y2 y3 y4
      unfold spec_l3Work.l0
      repeat' first
      | (with_reducible exact ih0 _ _ _ _ _)
      | (with_reducible exact ih1 _ _ _ _ _ _)
      | (with_reducible exact LeO.refl _)
      | (with_reducible exact LeO.none _)
      | (with_reducible refine LeO.ite ?_ ?_)
      | (with_reducible refine LeO.bind ?_ (fun _ => ?_))
      | exact ih0 _ _ _ _ _
      | exact ih1 _ _ _ _ _ _
      | exact LeO.none _
      | refine LeO.ite ?_ ?_
      | refine LeO.bind ?_ (fun _ => ?_)
    · intro y0 y1 y2 y3 y4 y5
      unfold spec_l3Work.l1
      repeat' first
      | (with_reducible exact ih0 _ _ _ _ _)
      | (with_reducible exact ih1 _ _ _ _ _ _)
      | (with_reducible exact LeO.refl _)
      | (with_reducible exact LeO.none _)
      | (with_reducible refine LeO.ite ?_ ?_)
      | (with_reducible refine LeO.bind ?_ (fun _ => ?_))
      | exact ih0 _ _ _ _ _
      | exact ih1 _ _ _ _ _ _
      | exact LeO.none _
      | refine LeO.ite ?_ ?_
      | refine LeO.bind ?_ (fun _ => ?_)
theorem spec_l3Work.mono : ∀ a0 a1 k, LeO (spec_l3Work.f k a0 a1) (spec_l3Work.f (k + 1) a0 a1) := by
  intro a0 a1 k
  obtain ⟨ih0, ih1⟩ := spec_l3Work.mono_l k
  unfold spec_l3Work.f
  repeat' first
      | (with_reducible exact ih0 _ _ _ _ _)
      | (with_reducible exact ih1 _ _ _ _ _ _)
      | (with_reducible exact LeO.refl _)
      | (with_reducible exact LeO.none _)
      | (with_reducible refine LeO.ite ?_ ?_)
      | (with_reducible refine LeO.bind ?_ (fun _ => ?_))
      | exact ih0 _ _ _ _ _
      | exact ih1 _ _ _ _ _ _
      | exact LeO.none _
      | refine LeO.ite ?_ ?_
      | refine LeO.bind ?_ (fun _ => ?_)
set_option maxHeartbeats 8000000 in
set_option maxRecDepth 100000 in
theorem spec_l3Work.calls (k : Nat) (A0 : Option Addr) (c0 : Nat) (l0 : List (S42)) (a1 : Int) (r : List Int) (w : World) (hr0 : Kd.C k42 w A0 l0.length l0) (hc0 : l0.length ≤ c0) (h : spec_l3Work.f k l0 a1 = some r) :
    Calls Try.prog 62 #[.slice A0 l0.length c0, .int .i64 a1] w fun e w' => ∃ v0_ : Value, e = .returned (v0_) ∧ Kd.R (Kd.int .i64) 3 w' w.heap.size (fun _ => True) v0_ r ∧ Below w.heap.size w w' := by
  have HR0 := Aside0.mk hr0
  have HC0 := Aside0.mk hc0
  clear hr0 hc0
  have HB := Aside0.mk (Below.refl w.heap.size w)
  have H : (spec_l3Work.l0 k l0 a1 (([] : List Int)) 0 0) = some r := h
  clear h
  obtain ⟨y118, hy118⟩ : ∃ y_ : List Int, y_ = (([] : List Int)) := ⟨_, rfl⟩
  replace H : (spec_l3Work.l0 k l0 a1 y118 0 0) = some r := by first | (rw [hy118]; with_reducible exact H) | (have H2_ := (Option.bind_some _ _).symm.trans H; rw [hy118]; with_reducible exact H2_) | (have H2_ := (Option.bind_some _ _).symm.trans H; with_reducible exact H2_) | with_reducible exact H | (rw [hy118]; exact H) | exact H
  have Ny118 := Aside0.mk hy118
  clear hy118
  have H' := Aside0.mk H
  clear H
  go_enter Try.func62, Try.ntmps62
  go_wp2_with (first | ((with_reducible refine gate_dst (N := 9) rfl ?_); refine Kd.R_lit (Kd.int .i64) _ 3 ?hg (N := 9) ?hd (xs := ([] : List Int)) (inner := []) (ok := fun _ => True) (okp := fun _ => True) ?hr ?hp (fun _ hk => hk) trivial (Below.refl _ _) (Nat.le_refl _) (by simp) ?_; (case hd => rfl); (case hg => rfl); (case hr => first | (go_simp; done) | (go_simp; rfl)); (case hp => exact (Reps.none _ _)); intro v119 w3 ho4 hb hg_ hnew_; clear hg_ hnew_; (first | rw [← Ny118.out] at ho4 | (simp only [Int.reduceToNat] at ho4; rw [← Ny118.out] at ho4)); have n0_ := Aside0.mk (Kd.R_lower ho4 (below_size (by repeat (first | (with_reducible first | exact HB.out | apply below_alloc | apply pw_below_drewN | apply below_drew1) | exact HB.out)))); have n1_ := Aside0.mk (below_step (by repeat (first | (with_reducible first | exact HB.out | apply below_alloc | apply pw_below_drewN | apply below_drew1) | exact HB.out)) hb); clear HB; have HO120 := n0_; have HB := n1_; clear n0_ n1_; clear hb ho4))
  go_loopg [5, 6, 7] k (fun kq v5 v6 v7 w' => ∃ (x5_1 : List Int) (x6_1 : Int) (x7_1 : Int), v6 = .int .i64 x6_1 ∧ v7 = .int .i64 x7_1 ∧ Aside0 (spec_l3Work.l0 kq l0 a1 x5_1 x6_1 x7_1 = some r) ∧ Aside0 (kq ≤ k) ∧ Aside0 (Kd.R (Kd.int .i64) 3 w' w.heap.size (fun _ => True) v5 x5_1) ∧ Aside0 (Below w.heap.size w w'))
  case atStart => exact ⟨(y118), (0), (0), (by first | rfl | (simp; done) | (simp [*]; done)), (by first | rfl | (simp; done) | (simp [*]; done)), H', ⟨Nat.le_refl _⟩, ⟨by (with_reducible repeat (first | apply Kd.R_alloc | apply Kd.R_drewN | apply Kd.R_drew)); exact HO120.out⟩, ⟨by repeat (first | (with_reducible first | exact HB.out | apply below_alloc | apply pw_below_drewN | apply below_drew1) | exact HB.out)⟩⟩
  case round =>
    clear H'
    try clear p2
    obtain ⟨x5_1, x6_1, x7_1, rfl, rfl, HA, HK1, HO_5, HB⟩ := hrel
    cases gk with
    | zero => exact absurd HA.out (by simp [spec_l3Work.l0])
    | succ k1 =>
      have H := HA.out
      clear HA
      simp only [spec_l3Work.l0] at H
      by_cases c5 : x7_1 ≤ a1
      · rw [if_pos c5] at H
        have c5b0 : decide (x7_1 ≤ a1) = true := decide_eq_true c5
        clear c5
        have H' := Aside0.mk H
        clear H
        go_wp2
        go_loopg [6, 8] k1 (fun kq v6 v8 w' => ∃ (x6_2 : Int) (x8_2 : Int), v6 = .int .i64 x6_2 ∧ v8 = .int .i64 x8_2 ∧ Aside0 (spec_l3Work.l1 kq l0 a1 x5_1 x6_2 x7_1 x8_2 = some r) ∧ Aside0 (kq ≤ k1) ∧ Aside0 (Kd.R (Kd.int .i64) 3 w' w.heap.size (fun _ => True) u5 x5_1) ∧ Aside0 (Below w.heap.size w w'))
        case atStart => exact ⟨(x6_1), (0), (by first | rfl | (simp; done) | (simp [*]; done)), (by first | rfl | (simp; done) | (simp [*]; done)), H', ⟨Nat.le_refl _⟩, ⟨by (with_reducible repeat (first | apply Kd.R_alloc | apply Kd.R_drewN | apply Kd.R_drew)); exact HO_5.out⟩, ⟨by repeat (first | (with_reducible first | exact HB.out | apply below_alloc | apply pw_below_drewN | apply below_drew1) | exact HB.out)⟩⟩
        case round =>
          clear H'
          try clear p2
          try clear c5
          try clear c5b0
          try clear p2
          obtain ⟨x6_2, x8_2, rfl, rfl, HA, HK2, HO_5, HB⟩ := hrel
          cases gk with
          | zero => exact absurd HA.out (by simp [spec_l3Work.l1])
          | succ k2 =>
            have H := HA.out
            clear HA
            simp only [spec_l3Work.l1] at H
            by_cases c6 : x8_2 < (l0.length : Int)
            · rw [if_pos c6] at H
              have c6b0 : decide (x8_2 < (l0.length : Int)) = true := decide_eq_true c6
              clear c6
              by_cases c7 : 0 ≤ x8_2
              · rw [if_pos c7] at H
                have c7b0 : decide (0 ≤ x8_2) = true := decide_eq_true c7
                clear c7
                by_cases c8 : ((rd_T42 l0 x8_2).f0) = x7_1
                · rw [if_pos c8] at H
                  have c8b0 : (((rd_T42 l0 x8_2).f0) == x7_1) = true := beq_iff_eq.mpr c8
                  have c8b1 : (((rd_T42 l0 x8_2).f0) != x7_1) = false := bne_eq_false_iff_eq.mpr c8
                  clear c8
                  have H' := Aside0.mk H
                  clear H
                  have p121 : 0 ≤ (x8_2 : Int) := of_decide_eq_true (by first | (with_reducible assumption) | assumption)
                  have q121 : x8_2 < (l0.length : Int) := of_decide_eq_true (by first | (with_reducible assumption) | assumption)
                  obtain ⟨ad121, e121, hx121_0, hx121_1⟩ := at_T42 HR0.out x8_2 p121 q121
                  cases e121
                  replace hx121_0 := (HB.out.cell (World.block_lt_of_cell? w _ hx121_0)).trans hx121_0
                  replace hx121_1 := (HB.out.cell (World.block_lt_of_cell? w _ hx121_1)).trans hx121_1
                  replace p121 := eq_true p121
                  replace q121 := eq_true q121
                  have p122 : 0 ≤ (x8_2 : Int) := of_decide_eq_true (by first | (with_reducible assumption) | assumption)
                  have q122 : x8_2 < (l0.length : Int) := of_decide_eq_true (by first | (with_reducible assumption) | assumption)
                  obtain ⟨ad122, e122, hx122_0, hx122_1⟩ := at_T42 HR0.out x8_2 p122 q122
                  obtain rfl : ad121 = ad122 := (by injection e122)
                  replace hx122_0 := (HB.out.cell (World.block_lt_of_cell? w _ hx122_0)).trans hx122_0
                  replace hx122_1 := (HB.out.cell (World.block_lt_of_cell? w _ hx122_1)).trans hx122_1
                  replace p122 := eq_true p122
                  replace q122 := eq_true q122
                  go_wp2
                  go_roundg k2
                  case measure => have := HK1.out; have := HK2.out; omega
                  case rel => exact ⟨(wrap64 (x6_2 + ((rd_T42 l0 x8_2).f1))), (wrap64 (x8_2 + 1)), (by first | rfl | (simp; done) | (simp [*]; done)), (by first | rfl | (simp; done) | (simp [*]; done)), H', ⟨by have := HK1.out; have := HK2.out; omega⟩, ⟨by (with_reducible repeat (first | apply Kd.R_alloc | apply Kd.R_drewN | apply Kd.R_drew)); exact HO_5.out⟩, ⟨by repeat (first | (with_reducible first | exact HB.out | apply below_alloc | apply pw_below_drewN | apply below_drew1) | exact HB.out)⟩⟩
                · rw [if_neg c8] at H
                  have c8b0 : (((rd_T42 l0 x8_2).f0) == x7_1) = false := beq_eq_false_iff_ne.mpr c8
                  have c8b1 : (((rd_T42 l0 x8_2).f0) != x7_1) = true := bne_iff_ne.mpr c8
                  have H' := Aside0.mk H
                  clear H
                  have p121 : 0 ≤ (x8_2 : Int) := of_decide_eq_true (by first | (with_reducible assumption) | assumption)
                  have q121 : x8_2 < (l0.length : Int) := of_decide_eq_true (by first | (with_reducible assumption) | assumption)
                  obtain ⟨ad121, e121, hx121_0, hx121_1⟩ := at_T42 HR0.out x8_2 p121 q121
                  cases e121
                  replace hx121_0 := (HB.out.cell (World.block_lt_of_cell? w _ hx121_0)).trans hx121_0
                  replace hx121_1 := (HB.out.cell (World.block_lt_of_cell? w _ hx121_1)).trans hx121_1
                  replace p121 := eq_true p121
                  replace q121 := eq_true q121
                  go_wp2
                  go_roundg k2
                  case measure => have := HK1.out; have := HK2.out; omega
                  case rel => exact ⟨(x6_2), (wrap64 (x8_2 + 1)), (by first | rfl | (simp; done) | (simp [*]; done)), (by first | rfl | (simp; done) | (simp [*]; done)), H', ⟨by have := HK1.out; have := HK2.out; omega⟩, ⟨by (with_reducible repeat (first | apply Kd.R_alloc | apply Kd.R_drewN | apply Kd.R_drew)); exact HO_5.out⟩, ⟨by repeat (first | (with_reducible first | exact HB.out | apply below_alloc | apply pw_below_drewN | apply below_drew1) | exact HB.out)⟩⟩
              · rw [if_neg c7] at H
                exact absurd H (by simp)
            · rw [if_neg c6] at H
              have c6b0 : decide (x8_2 < (l0.length : Int)) = false := decide_eq_false c6
              clear c6
              by_cases c9 : x5_1.length < 17592186044416
              · rw [if_pos c9] at H
                have LMc9 := Aside0.mk c9
                clear c9
                obtain ⟨y123, hy123⟩ : ∃ y_ : List Int, y_ = (x5_1 ++ [x6_2]) := ⟨_, rfl⟩
                replace H : (spec_l3Work.l0 k2 l0 a1 y123 (mx (wrap64 (x6_2 - 1)) 0) (wrap64 (x7_1 + 1))) = some r := by first | (rw [hy123]; with_reducible exact H) | (have H2_ := (Option.bind_some _ _).symm.trans H; rw [hy123]; with_reducible exact H2_) | (have H2_ := (Option.bind_some _ _).symm.trans H; with_reducible exact H2_) | with_reducible exact H | (rw [hy123]; exact H) | exact H
                have Ny123 := Aside0.mk hy123
                clear hy123
                obtain ⟨ji10, hji10⟩ : ∃ j_ : Int, (mx (wrap64 (x6_2 - 1)) 0) = j_ := ⟨_, rfl⟩
                replace H : (spec_l3Work.l0 k2 l0 a1 y123 ji10 (wrap64 (x7_1 + 1))) = some r := by first | (rw [hji10] at H; exact H) | (simp only [hji10] at H ⊢; exact H)
                have hji10_ : (if (wrap64 (x6_2 - 1)) < 0 then 0 else (wrap64 (x6_2 - 1))) = ji10 := hji10
                have H' := Aside0.mk H
                clear H
                go_wp2_with (first | ((with_reducible refine gate_builtin (b := .append) (xs := #[.tmp 35, .tmp 37]) rfl ?_); at_builtin; refine Kd.R_append (Kd.int .i64) (w0 := w) w.heap.size rfl (.tmp 35) (.tmp 37) 24 3 (.int .i64 0) 8 rfl Try.underlying24 info3 rfl (by decide) (by omega) u5 x5_1 x6_2 [.int .i64 x6_2] (fun _ => True) (fun _ => False) rfl rfl ?aP (fun _ hk => hk.elim) ?aF ?aO ?aB ?aS ?aL ?_; (case aP => exact rfl); (case aB => exact (by repeat (first | (with_reducible first | exact HB.out | apply below_alloc | apply pw_below_drewN | apply below_drew1) | exact HB.out))); (case aF => exact (fun _ _ => trivial)); (case aO => exact (by (with_reducible repeat (first | apply Kd.R_alloc | apply Kd.R_drewN | apply Kd.R_drew)); exact HO_5.out)); (case aS => exact (below_size (by repeat (first | (with_reducible first | exact HB.out | apply below_alloc | apply pw_below_drewN | apply below_drew1) | exact HB.out)))); (case aL => have := LMc9.out; omega); intro v124 w11 ho hb hg hat; rw [← Ny123.out] at ho; have n0_ := Aside0.mk (hb); have n1_ := Aside0.mk (ho); clear HB; clear HO_5; have HB := n0_; have HO125 := n1_; clear n0_ n1_; clear ho hb hg hat))
                go_roundg k2
                case measure => have := HK1.out; have := HK2.out; omega
                case rel => exact ⟨(y123), (ji10), (wrap64 (x7_1 + 1)), (by first | rfl | (simp; done) | (simp only [← hji10] <;> (first | rfl | simp)) | (simp [*]; done)), (by first | rfl | (simp; done) | (simp [*]; done)), H', ⟨by have := HK1.out; have := HK2.out; omega⟩, ⟨by (with_reducible repeat (first | apply Kd.R_alloc | apply Kd.R_drewN | apply Kd.R_drew)); exact HO125.out⟩, ⟨by repeat (first | (with_reducible first | exact HB.out | apply below_alloc | apply pw_below_drewN | apply below_drew1) | exact HB.out)⟩⟩
              · rw [if_neg c9] at H
                exact absurd H (by simp)
      · rw [if_neg c5] at H
        have c5b0 : decide (x7_1 ≤ a1) = false := decide_eq_false c5
        clear c5
        obtain rfl := Option.some.inj H
        go_wp2
        go_ret
        exact ⟨_, by first | rfl | (simp [errW_none, errW_some] <;> rfl) | (simp [*, errW_none, errW_some] <;> rfl), by (with_reducible repeat (first | apply Kd.R_alloc | apply Kd.R_drewN | apply Kd.R_drew)); exact HO_5.out, by repeat (first | (with_reducible first | exact HB.out | apply below_alloc | apply pw_below_drewN | apply below_drew1) | exact HB.out)⟩

/-! ### spec_WorkArea: function 24 -/
def spec_WorkArea.l0 : Nat → Int → List Int → Int → Option (Int)
  | 0, _, _, _ => none
  | k + 1, x3, x4, x5 => if x5 < (x4.length : Int) then (if 0 ≤ x5 then (spec_WorkArea.l0 k (wrap64 (x3 + (rd x4 x5))) x4 (wrap64 (x5 + 1))) else (none)) else (some x3)
def spec_WorkArea.f (k : Nat) (l0 : List (S42)) : Option (Int) := (spec_CustomersOk.f k l0).bind fun t126 => (if t126 = true then ((spec_l3Work.f k l0 200).bind fun t127 => (spec_WorkArea.l0 k 0 t127 0)) else (some (-1)))
theorem spec_WorkArea.mono_l : ∀ k, (∀ y0 y1 y2, LeO (spec_WorkArea.l0 k y0 y1 y2) (spec_WorkArea.l0 (k + 1) y0 y1 y2))
  | 0 => fun _ _ _ r h => by simp [spec_WorkArea.l0] at h
  | k + 1 => by
    have ih0 := spec_WorkArea.mono_l k
    · intro y0 y1 y2
      unfold spec_WorkArea.l0
      repeat' first
      | (with_reducible exact ih0 _ _ _)
      | (with_reducible exact spec_CustomersOk.mono _ _)
      | (with_reducible exact spec_l3Work.mono _ _ _)
      | (with_reducible exact LeO.refl _)
      | (with_reducible exact LeO.none _)
      | (with_reducible refine LeO.ite ?_ ?_)
      | (with_reducible refine LeO.bind ?_ (fun _ => ?_))
      | exact ih0 _ _ _
      | exact spec_CustomersOk.mono _ _
      | exact spec_l3Work.mono _ _ _
      | exact LeO.none _
      | refine LeO.ite ?_ ?_
      | refine LeO.bind ?_ (fun _ => ?_)
theorem spec_WorkArea.mono : ∀ a0 k, LeO (spec_WorkArea.f k a0) (spec_WorkArea.f (k + 1) a0) := by
  intro a0 k
  have ih0 := spec_WorkArea.mono_l k
  unfold spec_WorkArea.f
  repeat' first
      | (with_reducible exact ih0 _ _ _)
      | (with_reducible exact spec_CustomersOk.mono _ _)
      | (with_reducible exact spec_l3Work.mono _ _ _)
      | (with_reducible exact LeO.refl _)
      | (with_reducible exact LeO.none _)
      | (with_reducible refine LeO.ite ?_ ?_)
      | (with_reducible refine LeO.bind ?_ (fun _ => ?_))
      | exact ih0 _ _ _
      | exact spec_CustomersOk.mono _ _
      | exact spec_l3Work.mono _ _ _
      | exact LeO.none _
      | refine LeO.ite ?_ ?_
      | refine LeO.bind ?_ (fun _ => ?_)
set_option maxHeartbeats 8000000 in
set_option maxRecDepth 100000 in
theorem spec_WorkArea.calls (k : Nat) (A0 : Option Addr) (c0 : Nat) (l0 : List (S42)) (r : Int) (w : World) (hr0 : Kd.C k42 w A0 l0.length l0) (hc0 : l0.length ≤ c0) (h : spec_WorkArea.f k l0 = some r) :
    Calls Try.prog 24 #[.slice A0 l0.length c0] w fun e w' => e = .returned (.int .i64 r) ∧ Below w.heap.size w w' := by
  have HR0 := Aside0.mk hr0
  have HC0 := Aside0.mk hc0
  clear hr0 hc0
  have HB := Aside0.mk (Below.refl w.heap.size w)
  have H : ((spec_CustomersOk.f k l0).bind fun t126 => (if t126 = true then ((spec_l3Work.f k l0 200).bind fun t127 => (spec_WorkArea.l0 k 0 t127 0)) else (some (-1)))) = some r := h
  clear h
  replace H := Option.bind_eq_some_iff.mp H
  obtain ⟨t126, A20, H⟩ := H
  replace H : (if t126 = true then ((spec_l3Work.f k l0 200).bind fun t127 => (spec_WorkArea.l0 k 0 t127 0)) else (some (-1))) = some r := H
  have A2 := Aside0.mk A20
  clear A20
  by_cases c3 : t126 = true
  · subst c3
    have H1 : ((spec_l3Work.f k l0 200).bind fun t127 => (spec_WorkArea.l0 k 0 t127 0)) = some r := by rw [if_pos rfl] at H; exact H
    clear H
    have H := H1
    clear H1
    replace H := Option.bind_eq_some_iff.mp H
    obtain ⟨t127, A40, H⟩ := H
    replace H : (spec_WorkArea.l0 k 0 t127 0) = some r := H
    have A4 := Aside0.mk A40
    clear A40
    have H' := Aside0.mk H
    clear H
    go_enter Try.func24, Try.ntmps24
    go_wp2_with (first | ((with_reducible refine gate_callee (f := 57) rfl ?_); refine goesL_ (some 7) rfl rfl Try.func57 (by kernel_rfl) rfl #[.slice A0 l0.length c0] rfl (by (try simp only [List.map_toArray, List.map_cons, List.map_nil]); first | done | rfl | (simp only [List.length_drop, List.length_take]; rfl)) ?_; (with_reducible refine (spec_CustomersOk.calls k _ _ l0 true _ ?side1 ?side2 A2.out).mono ?_); (case side1 => repeat (first | exact HR0.out | (with_reducible refine Kd.C_alloc ?_ _) | (with_reducible refine Kd.C_drewN ?_ _) | (with_reducible refine Kd.C_drew ?_))); (case side2 => exact HC0.out); rintro e w5 ⟨rfl, hb⟩; refine ⟨_, rfl, ?_⟩; have n0_ := Aside0.mk (below_step (by repeat (first | (with_reducible first | exact HB.out | apply below_alloc | apply pw_below_drewN | apply below_drew1) | exact HB.out)) hb); clear HB; have HB := n0_; clear n0_; (try clear hb); (try clear hb2); (try clear hk); (try clear hi)) | ((with_reducible refine gate_callee (f := 62) rfl ?_); refine goesL_ (some 10) rfl rfl Try.func62 (by kernel_rfl) rfl #[.slice A0 l0.length c0, .int .i64 200] rfl (by (try simp only [List.map_toArray, List.map_cons, List.map_nil]); first | done | rfl | (simp only [List.length_drop, List.length_take]; rfl)) ?_; (with_reducible refine (spec_l3Work.calls k _ _ l0 200 t127 _ ?side1 ?side2 A4.out).mono ?_); (case side1 => repeat (first | exact (Kd.C_below HR0.out HB.out) | (with_reducible refine Kd.C_alloc ?_ _) | (with_reducible refine Kd.C_drewN ?_ _) | (with_reducible refine Kd.C_drew ?_))); (case side2 => exact HC0.out); rintro e w6 ⟨v128, rfl, ho0, hb⟩; refine ⟨_, rfl, ?_⟩; have n0_ := Aside0.mk (Kd.R_lower ho0 (below_size (by repeat (first | (with_reducible first | exact HB.out | apply below_alloc | apply pw_below_drewN | apply below_drew1) | exact HB.out)))); have n1_ := Aside0.mk (below_step (by repeat (first | (with_reducible first | exact HB.out | apply below_alloc | apply pw_below_drewN | apply below_drew1) | exact HB.out)) hb); clear HB; have HO129 := n0_; have HB := n1_; clear n0_ n1_; (try clear hb); (try clear hb2); (try clear hk); (try clear hi); (try clear ho0)))
    go_loopg [3, 5] k (fun kq v3 v5 w' => ∃ (x3_1 : Int) (x5_1 : Int), v3 = .int .i64 x3_1 ∧ v5 = .int .i64 x5_1 ∧ Aside0 (spec_WorkArea.l0 kq x3_1 t127 x5_1 = some r) ∧ Aside0 (kq ≤ k) ∧ Aside0 (Kd.R (Kd.int .i64) 3 w' w.heap.size (fun _ => True) v128 t127) ∧ Aside0 (Below w.heap.size w w'))
    case atStart => exact ⟨(0), (0), (by first | rfl | (simp; done) | (simp [*]; done)), (by first | rfl | (simp; done) | (simp [*]; done)), H', ⟨Nat.le_refl _⟩, ⟨by (with_reducible repeat (first | apply Kd.R_alloc | apply Kd.R_drewN | apply Kd.R_drew)); exact HO129.out⟩, ⟨by repeat (first | (with_reducible first | exact HB.out | apply below_alloc | apply pw_below_drewN | apply below_drew1) | exact HB.out)⟩⟩
    case round =>
      clear H'
      try clear c2
      try clear p2
      try clear c3
      try clear c5
      try clear c6
      obtain ⟨x3_1, x5_1, rfl, rfl, HA, HK1, HO_4, HB⟩ := hrel
      cases gk with
      | zero => exact absurd HA.out (by simp [spec_WorkArea.l0])
      | succ k1 =>
        have H := HA.out
        clear HA
        simp only [spec_WorkArea.l0] at H
        by_cases c7 : x5_1 < (t127.length : Int)
        · rw [if_pos c7] at H
          have c7b0 : decide (x5_1 < (t127.length : Int)) = true := decide_eq_true c7
          clear c7
          by_cases c8 : 0 ≤ x5_1
          · rw [if_pos c8] at H
            have c8b0 : decide (0 ≤ x5_1) = true := decide_eq_true c8
            clear c8
            have H' := Aside0.mk H
            clear H
            obtain ⟨Ao9, co9, eo9⟩ := Kd.R_slice HO_4.out
            subst eo9
            have p130 : 0 ≤ (x5_1 : Int) := of_decide_eq_true (by first | (with_reducible assumption) | assumption)
            have q130 : x5_1 < (t127.length : Int) := of_decide_eq_true (by first | (with_reducible assumption) | assumption)
            obtain ⟨ad130, e130, hx130_0⟩ := Kd.at_int (Kd.R_reads' HO_4.out).2.2 x5_1 p130 q130
            cases e130
            replace p130 := eq_true p130
            replace q130 := eq_true q130
            go_wp2
            go_roundg k1
            case measure => have := HK1.out; omega
            case rel => exact ⟨(wrap64 (x3_1 + (rd t127 x5_1))), (wrap64 (x5_1 + 1)), (by first | rfl | (simp; done) | (simp [*]; done)), (by first | rfl | (simp; done) | (simp [*]; done)), H', ⟨by have := HK1.out; omega⟩, ⟨by (with_reducible repeat (first | apply Kd.R_alloc | apply Kd.R_drewN | apply Kd.R_drew)); exact HO_4.out⟩, ⟨by repeat (first | (with_reducible first | exact HB.out | apply below_alloc | apply pw_below_drewN | apply below_drew1) | exact HB.out)⟩⟩
          · rw [if_neg c8] at H
            exact absurd H (by simp)
        · rw [if_neg c7] at H
          have c7b0 : decide (x5_1 < (t127.length : Int)) = false := decide_eq_false c7
          clear c7
          obtain rfl := Option.some.inj H
          obtain ⟨Ao10, co10, eo10⟩ := Kd.R_slice HO_4.out
          subst eo10
          go_wp2
          go_ret
          exact ⟨by first | rfl | (simp [errW_none, errW_some] <;> rfl) | (simp [*, errW_none, errW_some] <;> rfl), by repeat (first | (with_reducible first | exact HB.out | apply below_alloc | apply pw_below_drewN | apply below_drew1) | exact HB.out)⟩
  · replace c3 := Bool.eq_false_iff.mpr c3
    subst c3
    have H1 : (some (-1)) = some r := by rw [if_neg (show ¬ (false = true) by decide)] at H; exact H
    clear H
    have H := H1
    clear H1
    obtain rfl := Option.some.inj H
    go_enter Try.func24, Try.ntmps24
    go_wp2_with (first | ((with_reducible refine gate_callee (f := 57) rfl ?_); refine goesL_ (some 7) rfl rfl Try.func57 (by kernel_rfl) rfl #[.slice A0 l0.length c0] rfl (by (try simp only [List.map_toArray, List.map_cons, List.map_nil]); first | done | rfl | (simp only [List.length_drop, List.length_take]; rfl)) ?_; (with_reducible refine (spec_CustomersOk.calls k _ _ l0 false _ ?side1 ?side2 A2.out).mono ?_); (case side1 => repeat (first | exact HR0.out | (with_reducible refine Kd.C_alloc ?_ _) | (with_reducible refine Kd.C_drewN ?_ _) | (with_reducible refine Kd.C_drew ?_))); (case side2 => exact HC0.out); rintro e w11 ⟨rfl, hb⟩; refine ⟨_, rfl, ?_⟩; have n0_ := Aside0.mk (below_step (by repeat (first | (with_reducible first | exact HB.out | apply below_alloc | apply pw_below_drewN | apply below_drew1) | exact HB.out)) hb); clear HB; have HB := n0_; clear n0_; (try clear hb); (try clear hb2); (try clear hk); (try clear hi)))
    go_ret
    exact ⟨by first | rfl | (simp [errW_none, errW_some] <;> rfl) | (simp [*, errW_none, errW_some] <;> rfl), by repeat (first | (with_reducible first | exact HB.out | apply below_alloc | apply pw_below_drewN | apply below_drew1) | exact HB.out)⟩

/-! ### impl_works: function 64 -/
/-! ### An array of the call's own -/
/-- Block b holds 201 cells. -/
def AB (w : World) (b : Nat) (cs : Array Value) : Prop := cs.size = 201 ∧ w.heap[b]? = some (.cells cs 59 (0, 0))
theorem AB.alloc {w : World} {b : Nat} {cs : Array Value} (h : AB w b cs) (o : Obj) : AB (w.alloc o) b cs := by
  refine ⟨h.1, ?_⟩
  have h2 := h.2
  have hl : b < w.heap.size := by
    rcases Nat.lt_or_ge b w.heap.size with c | c
    · exact c
    · rw [Array.getElem?_eq_none c] at h2; cases h2
  show (w.heap.push o)[b]? = _
  rw [Array.getElem?_push, if_neg (by omega)]; exact h2
theorem AB.lt {w : World} {b : Nat} {cs : Array Value} (h : AB w b cs) : b < w.heap.size := by
  have h2 := h.2
  rcases Nat.lt_or_ge b w.heap.size with c | c
  · exact c
  · rw [Array.getElem?_eq_none c] at h2; cases h2
theorem AB.put {w : World} {b : Nat} {cs : Array Value} (h : AB w b cs) (i : Nat) (v : Value) : AB (w.setCell ⟨b, i, none⟩ v) b (cs.setIfInBounds i v) := by
  refine ⟨by rw [Array.size_setIfInBounds]; exact h.1, ?_⟩
  show (w.heap.modify b _)[b]? = _
  rw [Array.getElem?_modify, if_pos rfl, h.2]; rfl
theorem AB.other {w : World} {b : Nat} {cs : Array Value} (h : AB w b cs) {a : Addr} (ne : a.block ≠ b) (v : Value) : AB (w.setCell a v) b cs := by
  refine ⟨h.1, ?_⟩
  show (w.heap.modify a.block _)[b]? = _
  rw [Array.getElem?_modify, if_neg ne]; exact h.2
theorem AB.cell {w : World} {b : Nat} {cs : Array Value} (h : AB w b cs) (i : Nat) : w.cell? ⟨b, i, none⟩ = cs[i]? := by
  unfold World.cell?
  rw [h.2]; rfl
theorem AB.frozen {w : World} {b : Nat} {cs : Array Value} (h : AB w b cs) (i : Nat) : w.frozen? ⟨b, i, none⟩ = false := by
  unfold World.frozen?
  rw [h.2]
  simp
theorem AB.load {P : Program} {w : World} {b : Nat} {cs : Array Value} (h : AB w b cs) : Sem.run P (loadCells ⟨b, 0, none⟩ 201) w = .ok cs w := by
  have := run_loadCells_list (P := P) w ⟨b, 0, none⟩ cs.toList (fun j v hj => by
    have e : (⟨b, 0, none⟩ : Addr).add j = ⟨b, j, none⟩ := by simp [Addr.add]; exact fun h => h.symm
    rw [e, h.cell]
    rw [Array.getElem?_toList] at hj; exact hj)
  rw [Array.length_toList, h.1] at this
  simpa using this
theorem store_one (P : Program) (w : World) (b o : Nat) (v u : Value) (h1 : v.oneCell' = true) (hc : w.cell? ⟨b, o, none⟩ = some u) (hf : w.frozen? ⟨b, o, none⟩ = false) : Sem.run P (store ⟨b, o, none⟩ v) w = .ok () (w.setCell ⟨b, o, none⟩ v) := by
  have hst := run_store P w ⟨b, o, none⟩ v .plain h1
  rw [hc] at hst
  simp only [hf] at hst
  simpa using hst
theorem AB.store {P : Program} {b : Nat} : ∀ (vs : List Value) (i : Nat) (w : World) (cs : Array Value), (∀ v ∈ vs, v.oneCell' = true) → AB w b cs → i + vs.length ≤ 201 →
    ∃ w' cs', Sem.run P (storeCells ⟨b, 0, none⟩ vs i) w = .ok () w' ∧ AB w' b cs' ∧ (∀ j, j < vs.length → cs'[i + j]? = vs[j]?) ∧ (∀ j, j < i → cs'[j]? = cs[j]?) ∧ (∀ (base : Nat) (w0 : World), base ≤ b → Below base w0 w → Below base w0 w') ∧ (∀ d ds, d ≠ b → AB w d ds → AB w' d ds)
  | [], i, w, cs, _, h, _ => ⟨w, cs, by simp [storeCells], h, fun j hj => by simp at hj, fun _ _ => rfl, fun _ _ _ hb => hb, fun _ _ _ hd => hd⟩
  | v :: vs, i, w, cs, hv, h, hl => by
    simp only [List.length_cons] at hl
    have hi : i < cs.size := by rw [h.1]; omega
    have so := store_one P w b i v (cs[i]) (hv v (by simp)) (by rw [h.cell, Array.getElem?_eq_getElem hi]) (h.frozen i)
    obtain ⟨w', cs', h1, h2, h3, h4, h5, h6⟩ := AB.store (P := P) vs (i + 1) _ _ (fun u hu => hv u (by simp [hu])) (h.put i v) (by omega)
    have e : (⟨b, 0, none⟩ : Addr).add i = ⟨b, i, none⟩ := by simp [Addr.add]; exact fun h => h.symm
    refine ⟨w', cs', ?_, h2, fun j hj => ?_, fun j hj => ?_, fun base w0 hb hB => h5 base w0 hb (hB.setCell hb _), fun d ds hd hD => h6 d ds hd (hD.other (fun x => hd x.symm) v)⟩
    · simp only [storeCells, e, Sem.run_bind, so, Result.andThen, h1]
    · cases j with
      | zero =>
        rw [Nat.add_zero, h4 i (by omega), Array.getElem?_setIfInBounds_self_of_lt hi]; rfl
      | succ j =>
        have := h3 j (by simp only [List.length_cons] at hj; omega)
        rw [show i + (j + 1) = i + 1 + j by omega, this]; rfl
    · rw [h4 j (by omega), Array.getElem?_setIfInBounds_ne (by omega)]
/-- The whole array written. -/
theorem AB.fill {P : Program} {b : Nat} {w : World} {cs ds : Array Value} (h : AB w b cs) (hd : ds.size = 201) (hv : ∀ v ∈ ds.toList, v.oneCell' = true) :
    ∃ w', Sem.run P (storeCells ⟨b, 0, none⟩ ds.toList) w = .ok () w' ∧ AB w' b ds ∧ (∀ (base : Nat) (w0 : World), base ≤ b → Below base w0 w → Below base w0 w') ∧ (∀ d es, d ≠ b → AB w d es → AB w' d es) := by
  obtain ⟨w', cs', h1, h2, h3, _, h5, h6⟩ := AB.store (P := P) (b := b) ds.toList 0 w cs hv h (by rw [Array.length_toList, hd]; omega)
  refine ⟨w', h1, ?_, h5, h6⟩
  have e : cs' = ds := by
    apply Array.ext
    · rw [h2.1, hd]
    · intro j hj1 hj2
      have := h3 j (by rw [Array.length_toList]; exact hj2)
      rw [Nat.zero_add, Array.getElem?_toList, Array.getElem?_eq_getElem hj1, Array.getElem?_eq_getElem hj2] at this
      exact Option.some.inj this
  exact e ▸ h2
/-- The numbers of an array. -/
def enc (xs : List Int) : Array Value := (xs.map (Value.int .i64)).toArray
theorem enc_set (xs : List Int) (i : Nat) (x : Int) : (enc xs).setIfInBounds i (.int .i64 x) = enc (xs.set i x) := by
  unfold enc
  apply Array.ext'
  simp [List.map_set]
theorem enc_one (xs : List Int) : ∀ v ∈ (enc xs).toList, v.oneCell' = true := by
  intro v hv
  simp only [enc, List.mem_map] at hv
  obtain ⟨x, _, rfl⟩ := hv
  rfl
theorem zero59 : Try.zeroCells59 = enc (List.replicate 201 0) := by kernel_rfl
mutual
def impl_works.l0 : Nat → List S42 → List Int → Int → Int → Option (List Int)
  | 0, _, _, _, _ => none
  | k + 1, x0, x3, x4, x9 => if x9 < 201 then (if 0 ≤ x9 then (impl_works.l1 k x0 x3 x4 x9 0) else (none)) else (some x3)
def impl_works.l1 : Nat → List S42 → List Int → Int → Int → Int → Option (List Int)
  | 0, _, _, _, _, _ => none
  | k + 1, x0, x3, x4, x9, x14 => if x14 < (x0.length : Int) then (if 0 ≤ x14 then (if (rd_T42 x0 x14).f0 = x9 then (impl_works.l1 k x0 x3 (wrap64 (x4 + (rd_T42 x0 x14).f1)) x9 (wrap64 (x14 + 1))) else (impl_works.l1 k x0 x3 x4 x9 (wrap64 (x14 + 1)))) else (none)) else (impl_works.l0 k x0 (x3.set x9.toNat x4) (mx 0 (wrap64 (x4 - 1))) (wrap64 (x9 + 1)))
end
def impl_works.f (k : Nat) (l0 : List (S42)) : Option (List Int) := impl_works.l0 k l0 (List.replicate 201 0) 0 0
theorem info59 : (Try.prog.info? 59).map (·.size) = some 201 := by kernel_rfl
theorem isAgg59 (w : World) : (isAgg 59).run Try.prog w = .ok true w := by
  have hu := Try.underlying59
  simp [isAgg, hu]
theorem sizeOf59 (w : World) : (sizeOf 59).run Try.prog w = .ok 201 w := by
  cases hq : Try.prog.info? 59 with
  | none => have := info59; simp [hq] at this
  | some i => have := info59; simp [hq] at this; simp [sizeOf, typeInfo, hq, this]
theorem load_arr {o : Oper} {a : Act} {W : World} {b : Nat} {cs : Array Value} (x : Operand) (ho : o.op = .load 59 x) (hx : a.eval x = .pointer (some ⟨b, 0, none⟩)) (h : AB W b cs) : (execOp a.eval o).run Try.prog W = .ok (.value (.agg cs)) W := by
  unfold execOp
  simp only [ho, hx, Instr.loadAt, Instr.sureAddr, Sem.run_bind, Sem.run_pure, Result.andThen_ok, run_loadVar_row (P := Try.prog) W b 59 59 cs (0, 0) _ h.2 Try.underlying59 rfl (by rw [info59, h.1])]
theorem impl_works.mono_l : ∀ k, (∀ y0 y1 y2 y3, LeO (impl_works.l0 k y0 y1 y2 y3) (impl_works.l0 (k + 1) y0 y1 y2 y3)) ∧ (∀ y0 y1 y2 y3 y4, LeO (impl_works.l1 k y0 y1 y2 y3 y4) (impl_works.l1 (k + 1) y0 y1 y2 y3 y4))
  | 0 => ⟨fun _ _ _ _ r h => by simp [impl_works.l0] at h, fun _ _ _ _ _ r h => by simp [impl_works.l1] at h⟩
  | k + 1 => by
    obtain ⟨ih0, ih1⟩ := impl_works.mono_l k
    refine ⟨?_, ?_⟩
    · intro y0 y1 y2 y3
      unfold impl_works.l0
      repeat' first
      | (with_reducible exact ih0 _ _ _ _)
      | (with_reducible exact ih1 _ _ _ _ _)
      | (with_reducible exact LeO.refl _)
      | (with_reducible exact LeO.none _)
      | (with_reducible refine LeO.ite ?_ ?_)
      | (with_reducible refine LeO.bind ?_ (fun _ => ?_))
      | exact ih0 _ _ _ _
      | exact ih1 _ _ _ _ _
      | exact LeO.none _
      | refine LeO.ite ?_ ?_
      | refine LeO.bind ?_ (fun _ => ?_)
    · intro y0 y1 y2 y3 y4
      unfold impl_works.l1
      repeat' first
      | (with_reducible exact ih0 _ _ _ _)
      | (with_reducible exact ih1 _ _ _ _ _)
      | (with_reducible exact LeO.refl _)
      | (with_reducible exact LeO.none _)
      | (with_reducible refine LeO.ite ?_ ?_)
      | (with_reducible refine LeO.bind ?_ (fun _ => ?_))
      | exact ih0 _ _ _ _
      | exact ih1 _ _ _ _ _
      | exact LeO.none _
      | refine LeO.ite ?_ ?_
      | refine LeO.bind ?_ (fun _ => ?_)
theorem impl_works.mono : ∀ a0 k, LeO (impl_works.f k a0) (impl_works.f (k + 1) a0) := fun a0 k => (impl_works.mono_l k).1 _ _ _ _
set_option maxHeartbeats 8000000 in
set_option maxRecDepth 100000 in
theorem impl_works.calls (k : Nat) (A0 : Option Addr) (c0 : Nat) (l0 : List (S42)) (r : List Int) (w : World) (hr0 : Kd.C k42 w A0 l0.length l0) (hc0 : l0.length ≤ c0) (h : impl_works.f k l0 = some r) :
    Calls Try.prog 64 #[.slice A0 l0.length c0] w fun e w' => e = .returned (.agg (enc r)) ∧ r.length = 201 ∧ Below w.heap.size w w' := by
  have hu42 := Try.underlying42
  have ha59 : ∀ w, (isAgg 59).run Try.prog w = .ok true w := isAgg59
  have hz59 : ∀ w, (sizeOf 59).run Try.prog w = .ok 201 w := sizeOf59
  have HR0 := Aside0.mk hr0
  have HC0 := Aside0.mk hc0
  clear hr0 hc0
  obtain ⟨z0, hz0⟩ : ∃ z : List Int, z = List.replicate 201 0 := ⟨_, rfl⟩
  have H' := Aside0.mk (show impl_works.l0 k l0 z0 0 0 = some r from hz0 ▸ h)
  clear h
  obtain ⟨w3, hst, hA, hS, hO⟩ : ∃ w3, Sem.run Try.prog (storeCells { block := w.heap.size + 1, off := 0 } Try.zeroCells59.toList) ((w.alloc (Obj.cells Try.zeroCells59 59)).alloc (Obj.cells Try.zeroCells59 59)) = .ok () w3 ∧ AB w3 (w.heap.size + 1) (enc z0) ∧ Below w.heap.size w w3 ∧ ∃ cs, AB w3 w.heap.size cs := by
    have sz : Try.zeroCells59.size = 201 := by rw [zero59]; rfl
    have a2 : AB ((w.alloc (Obj.cells Try.zeroCells59 59)).alloc (Obj.cells Try.zeroCells59 59)) w.heap.size Try.zeroCells59 := AB.alloc ⟨sz, by show (w.heap.push _)[w.heap.size]? = _; rw [Array.getElem?_push_size]⟩ _
    have a3 : AB ((w.alloc (Obj.cells Try.zeroCells59 59)).alloc (Obj.cells Try.zeroCells59 59)) (w.heap.size + 1) Try.zeroCells59 := by
      refine ⟨sz, ?_⟩
      show ((w.heap.push _).push _)[w.heap.size + 1]? = _
      have e : w.heap.size + 1 = (w.heap.push (Obj.cells Try.zeroCells59 59)).size := by simp
      rw [e, Array.getElem?_push_size]
    obtain ⟨w3, h1, h2, h3, h4⟩ := AB.fill (P := Try.prog) a3 sz (by rw [zero59]; exact enc_one _)
    exact ⟨w3, h1, hz0 ▸ zero59 ▸ h2, h3 w.heap.size w (by omega) (below_alloc (below_alloc (Below.refl _ _) _) _), _, h4 _ _ (by omega) a2⟩
  have HA := Aside0.mk hA
  have HS := Aside0.mk hS
  have HO := Aside0.mk hO
  clear hA hS hO hz0
  go_enter Try.func64, Try.ntmps64
  go_wp2
  clear hst
  go_loopg [4, 9] k (fun kq v4 v9 w' => ∃ (x3 : List Int) (x4 x9 : Int), v4 = .int .i64 x4 ∧ v9 = .int .i64 x9 ∧ Aside0 (impl_works.l0 kq l0 x3 x4 x9 = some r) ∧ Aside0 (kq ≤ k) ∧ Aside0 (AB w' (w.heap.size + 1) (enc x3)) ∧ Aside0 (∃ cs, AB w' w.heap.size cs) ∧ Aside0 (Below w.heap.size w w'))
  case atStart => exact ⟨z0, 0, 0, (by first | rfl | (simp; done) | (simp [*]; done)), (by first | rfl | (simp; done) | (simp [*]; done)), H', ⟨Nat.le_refl _⟩, HA, HO, HS⟩
  case round =>
    clear H' HA HO HS
    obtain ⟨x3, x4, x9, rfl, rfl, HA, HK1, HX, HY, HB⟩ := hrel
    cases gk with
    | zero => exact absurd HA.out (by simp [impl_works.l0])
    | succ k1 =>
      have H := HA.out
      clear HA
      simp only [impl_works.l0] at H
      by_cases c5 : x9 < 201
      · rw [if_pos c5] at H
        by_cases c6 : 0 ≤ x9
        · rw [if_pos c6] at H
          have c5b0 : decide (x9 < 201) = true := decide_eq_true c5
          have c6b0 : decide (0 ≤ x9) = true := decide_eq_true c6
          clear c5 c6
          have H' := Aside0.mk H
          clear H
          go_wp2
          go_loopg [4, 14] k1 (fun kq v4 v14 w' => ∃ (x4_2 x14 : Int), v4 = .int .i64 x4_2 ∧ v14 = .int .i64 x14 ∧ Aside0 (impl_works.l1 kq l0 x3 x4_2 x9 x14 = some r) ∧ Aside0 (kq ≤ k1) ∧ Aside0 (AB w' (w.heap.size + 1) (enc x3)) ∧ Aside0 (∃ cs, AB w' w.heap.size cs) ∧ Aside0 (Below w.heap.size w w'))
          case atStart => exact ⟨x4, 0, (by first | rfl | (simp; done) | (simp [*]; done)), (by first | rfl | (simp; done) | (simp [*]; done)), H', ⟨Nat.le_refl _⟩, HX, HY, HB⟩
          case round =>
            clear H' HX HY HB
            obtain ⟨x4_2, x14, rfl, rfl, HA, HK2, HX, HY, HB⟩ := hrel
            cases gk with
            | zero => exact absurd HA.out (by simp [impl_works.l1])
            | succ k2 =>
              have H := HA.out
              clear HA
              simp only [impl_works.l1] at H
              by_cases c7 : x14 < (l0.length : Int)
              · rw [if_pos c7] at H
                by_cases c8 : 0 ≤ x14
                · rw [if_pos c8] at H
                  obtain ⟨ad, ead, hx0, hx1⟩ := at_T42 HR0.out x14 c8 c7
                  cases ead
                  replace hx0 := (HB.out.cell (World.block_lt_of_cell? w _ hx0)).trans hx0
                  replace hx1 := (HB.out.cell (World.block_lt_of_cell? w _ hx1)).trans hx1
                  have c7b0 : decide (x14 < (l0.length : Int)) = true := decide_eq_true c7
                  have c8b0 : decide (0 ≤ x14) = true := decide_eq_true c8
                  replace c7 := eq_true c7
                  replace c8 := eq_true c8
                  by_cases c9 : (rd_T42 l0 x14).f0 = x9
                  · rw [if_pos c9] at H
                    have c9b0 : ((rd_T42 l0 x14).f0 == x9) = true := beq_iff_eq.mpr c9
                    clear c9
                    have H' := Aside0.mk H
                    clear H
                    go_wp2
                    go_roundg k2
                    case measure => have := HK2.out; omega
                    case rel => exact ⟨_, _, (by first | rfl | (simp; done) | (simp [*]; done)), (by first | rfl | (simp; done) | (simp [*]; done)), H', ⟨by have := HK2.out; omega⟩, ⟨HX.out.alloc _⟩, ⟨by obtain ⟨cs, h⟩ := HY.out; exact ⟨cs, h.alloc _⟩⟩, ⟨below_alloc HB.out _⟩⟩
                  · rw [if_neg c9] at H
                    have c9b0 : ((rd_T42 l0 x14).f0 == x9) = false := beq_eq_false_iff_ne.mpr c9
                    clear c9
                    have H' := Aside0.mk H
                    clear H
                    go_wp2
                    go_roundg k2
                    case measure => have := HK2.out; omega
                    case rel => exact ⟨_, _, (by first | rfl | (simp; done) | (simp [*]; done)), (by first | rfl | (simp; done) | (simp [*]; done)), H', ⟨by have := HK2.out; omega⟩, ⟨HX.out.alloc _⟩, ⟨by obtain ⟨cs, h⟩ := HY.out; exact ⟨cs, h.alloc _⟩⟩, ⟨below_alloc HB.out _⟩⟩
                · rw [if_neg c8] at H
                  exact absurd H (by simp)
              · rw [if_neg c7] at H
                have c7b0 : decide (x14 < (l0.length : Int)) = false := decide_eq_false c7
                clear c7
                have H' := Aside0.mk H
                clear H
                have hx9 := of_decide_eq_true c5b0
                have hx9' := of_decide_eq_true c6b0
                have hxl : x3.length = 201 := by have := HX.out.1; simpa [enc] using this
                obtain ⟨x30, hc3⟩ : ∃ u, wr.cell? { block := w.heap.size + 1, off := x9.toNat } = some (.int .i64 u) := ⟨x3[x9.toNat]'(by omega), by
                  rw [HX.out.cell]; simp [enc, hxl, show x9.toNat < 201 by omega]⟩
                have hf3 := HX.out.frozen x9.toNat
                have HP := Aside0.mk (HX.out.put x9.toNat (.int .i64 x4_2))
                obtain ⟨cs0, hY⟩ := HY.out
                have HQ := Aside0.mk (hY.other (a := ⟨w.heap.size + 1, x9.toNat, none⟩) (by show w.heap.size + 1 ≠ w.heap.size; omega) (.int .i64 x4_2))
                have HB2 := Aside0.mk (below_set (g := w.heap.size + 1) (j := x9.toNat) (v := .int .i64 x4_2) HB.out (by omega))
                clear hY hxl
                replace hx9 := eq_true hx9
                replace hx9' := eq_true hx9'
                go_wp2
                all_goals
                  first
                    | rw [show mx 0 (wrap64 (x4_2 - 1)) = wrap64 (x4_2 - 1) from by unfold mx; rw [if_pos (by omega)]] at H'
                    | rw [show mx 0 (wrap64 (x4_2 - 1)) = 0 from by unfold mx; rw [if_neg (by omega)]] at H'
                  go_roundg k2
                  case measure => have := HK1.out; have := HK2.out; omega
                  case rel => exact ⟨_, _, _, (by first | rfl | (simp; done) | (simp [*]; done)), (by first | rfl | (simp; done) | (simp [*]; done)), H', ⟨by have := HK1.out; have := HK2.out; omega⟩, ⟨by rw [← enc_set]; exact HP.out⟩, ⟨⟨cs0, HQ.out⟩⟩, HB2⟩
        · rw [if_neg c6] at H
          exact absurd H (by simp)
      · rw [if_neg c5] at H
        have c5b0 : decide (x9 < 201) = false := decide_eq_false c5
        clear c5
        obtain rfl := Option.some.inj H
        obtain ⟨cs0, hY⟩ := HY.out
        have hsz : (enc x3).size = 201 := HX.out.1
        obtain ⟨w5, hst2, hA5, hB5, _⟩ := AB.fill (P := Try.prog) hY hsz (enc_one _)
        have hl3 : Sem.run Try.prog (loadCellsFrom { block := w.heap.size + 1, off := 0 } 0 201 #[]) wr = .ok (enc x3) wr := HX.out.load
        have hl5 : Sem.run Try.prog (loadCellsFrom { block := w.heap.size, off := 0 } 0 201 #[]) w5 = .ok (enc x3) w5 := hA5.load
        have hB5' := Aside0.mk (hB5 w.heap.size w (Nat.le_refl _) HB.out)
        clear hB5
        have HA5 := Aside0.mk hA5
        clear hA5 hY
        go_wp2_with (first | ((with_reducible refine gate_dst (N := 34) rfl ?_); refine Kd.event_run (v := .agg (enc x3)) (w1 := wr) ?hg ?hr ?_; (case hg => rfl); (case hr => exact load_arr _ rfl rfl HX.out)))
        clear hl3 hst2
        refine bodyPost_ret (v := .agg (enc x3)) ?_ rfl ⟨rfl, by simpa [enc] using hsz, hB5'.out⟩
        exact results_cell_row (P := Try.prog) (fn := Try.f64) (p := 2) (ty := 59) rfl _ w5 w.heap.size 59 (enc x3) (0, 0) _ rfl HA5.out.2 Try.underlying59 rfl (by rw [info59, HA5.out.1])

/-! ### impl_WorkArea: function 26 -/
theorem isAgg3 (w : World) : (isAgg 3).run Try.prog w = .ok false w := by
  have hu := Try.underlying3
  simp [isAgg, hu]
theorem info3s : (Try.prog.info? 3).map (·.size) = some 1 := by kernel_rfl
theorem sizeOf3 (w : World) : (sizeOf 3).run Try.prog w = .ok 1 w := by
  cases hq : Try.prog.info? 3 with
  | none => have := info3s; simp [hq] at this
  | some i => have := info3s; simp [hq] at this; simp [sizeOf, typeInfo, hq, this]
theorem index_arr {o : Oper} {a : Act} {W : World} {y : List Int} (x i : Operand) (n : Int) (ho : o.op = .index 59 x i) (hx : a.eval x = .agg (enc y)) (hi : a.eval i = .int .i64 n) (hy : y.length = 201) (h0 : 0 ≤ n) (h1 : n < 201) : (execOp a.eval o).run Try.prog W = .ok (.value (.int .i64 (rd y n))) W := by
  have hu := Try.underlying59
  have e3 := isAgg3
  have hc : (enc y)[n.toNat]? = some (.int .i64 (rd y n)) := by
    have hl : n.toNat < y.length := by omega
    simp [enc, rd, hl, List.getD]
  have hin : 0 ≤ n ∧ n < ((201 : Nat) : Int) := ⟨h0, by omega⟩
  have ei : (Instr.index 59 (.agg (enc y)) (.int .i64 n)).run Try.prog W = .ok (.int .i64 (rd y n)) W := by
    simp [Instr.index, run_underlying hu, asIntOf, h0, h1, go_sem, e3, sizeOf3, hc, Try.underlying3, part]
  unfold execOp
  simp only [ho, hx, hi, Sem.run_bind, ei, Result.andThen_ok, Sem.run_pure]
def impl_WorkArea.l0 : Nat → List Int → Int → Int → Option (Int)
  | 0, _, _, _ => none
  | k + 1, x10, x3, x11 => if x11 < 201 then (if 0 ≤ x11 then (impl_WorkArea.l0 k x10 (wrap64 (x3 + (rd x10 x11))) (wrap64 (x11 + 1))) else (none)) else (some x3)
def impl_WorkArea.f (k : Nat) (l0 : List (S42)) : Option (Int) := (impl_CustomersOk.f k l0).bind fun t => (if t = true then ((impl_works.f k l0).bind fun y => (impl_WorkArea.l0 k y 0 0)) else (some (-1)))
theorem impl_WorkArea.mono_l : ∀ k, (∀ y0 y1 y2, LeO (impl_WorkArea.l0 k y0 y1 y2) (impl_WorkArea.l0 (k + 1) y0 y1 y2))
  | 0 => fun _ _ _ r h => by simp [impl_WorkArea.l0] at h
  | k + 1 => by
    have ih0 := impl_WorkArea.mono_l k
    · intro y0 y1 y2
      unfold impl_WorkArea.l0
      repeat' first
      | (with_reducible exact ih0 _ _ _)
      | (with_reducible exact LeO.refl _)
      | (with_reducible exact LeO.none _)
      | (with_reducible refine LeO.ite ?_ ?_)
      | (with_reducible refine LeO.bind ?_ (fun _ => ?_))
      | exact ih0 _ _ _
      | exact LeO.none _
      | refine LeO.ite ?_ ?_
      | refine LeO.bind ?_ (fun _ => ?_)
theorem impl_WorkArea.mono : ∀ a0 k, LeO (impl_WorkArea.f k a0) (impl_WorkArea.f (k + 1) a0) := by
  intro a0 k
  have ih0 := impl_WorkArea.mono_l k
  unfold impl_WorkArea.f
  repeat' first
      | (with_reducible exact ih0 _ _ _)
      | (with_reducible exact impl_CustomersOk.mono _ _)
      | (with_reducible exact impl_works.mono _ _)
      | (with_reducible exact LeO.refl _)
      | (with_reducible exact LeO.none _)
      | (with_reducible refine LeO.ite ?_ ?_)
      | (with_reducible refine LeO.bind ?_ (fun _ => ?_))
      | exact ih0 _ _ _
      | exact impl_CustomersOk.mono _ _
      | exact impl_works.mono _ _
      | exact LeO.none _
      | refine LeO.ite ?_ ?_
      | refine LeO.bind ?_ (fun _ => ?_)
set_option maxHeartbeats 8000000 in
set_option maxRecDepth 100000 in
theorem impl_WorkArea.calls (k : Nat) (A0 : Option Addr) (c0 : Nat) (l0 : List (S42)) (r : Int) (w : World) (hr0 : Kd.C k42 w A0 l0.length l0) (hc0 : l0.length ≤ c0) (h : impl_WorkArea.f k l0 = some r) :
    Calls Try.prog 26 #[.slice A0 l0.length c0] w fun e w' => e = .returned (.int .i64 r) ∧ Below w.heap.size w w' := by
  have HR0 := Aside0.mk hr0
  have HC0 := Aside0.mk hc0
  clear hr0 hc0
  have HB := Aside0.mk (Below.refl w.heap.size w)
  have H : ((impl_CustomersOk.f k l0).bind fun t => (if t = true then ((impl_works.f k l0).bind fun y => (impl_WorkArea.l0 k y 0 0)) else (some (-1)))) = some r := h
  clear h
  replace H := Option.bind_eq_some_iff.mp H
  obtain ⟨t166, A20, H⟩ := H
  replace H : (if t166 = true then ((impl_works.f k l0).bind fun y => (impl_WorkArea.l0 k y 0 0)) else (some (-1))) = some r := H
  have A2 := Aside0.mk A20
  clear A20
  by_cases c3 : t166 = true
  · subst c3
    have H1 : ((impl_works.f k l0).bind fun y => (impl_WorkArea.l0 k y 0 0)) = some r := by rw [if_pos rfl] at H; exact H
    clear H
    replace H1 := Option.bind_eq_some_iff.mp H1
    obtain ⟨y, A40, H⟩ := H1
    have A4 := Aside0.mk A40
    clear A40
    have H' := Aside0.mk (show impl_WorkArea.l0 k y 0 0 = some r from H)
    clear H
    go_enter Try.func26, Try.ntmps26
    go_wp2_with (first | (go_at_call 55; (with_reducible refine (impl_CustomersOk.calls k _ _ l0 true _ ?side1 ?side2 A2.out).mono ?_); (case side1 => exact HR0.out); (case side2 => exact HC0.out); rintro e w5 ⟨rfl, hb⟩; have n0_ := Aside0.mk (below_step HB.out hb); clear HB; have HB := n0_; clear n0_; clear hb) | (go_at_call 64; (with_reducible refine (impl_works.calls k _ _ l0 y _ ?side1 ?side2 A4.out).mono ?_); (case side1 => exact (Kd.C_below HR0.out HB.out)); (case side2 => exact HC0.out); rintro e w6 ⟨rfl, hy, hb⟩; have HY := Aside0.mk hy; have n1_ := Aside0.mk (below_step HB.out hb); clear HB; have HB := n1_; clear n1_ hb hy))
    go_loopg [3, 11] k (fun kq v3 v11 w' => ∃ (x3 x11 : Int), v3 = .int .i64 x3 ∧ v11 = .int .i64 x11 ∧ Aside0 (impl_WorkArea.l0 kq y x3 x11 = some r) ∧ Aside0 (kq ≤ k) ∧ Aside0 (Below w.heap.size w w'))
    case atStart => exact ⟨0, 0, (by first | rfl | (simp; done) | (simp [*]; done)), (by first | rfl | (simp; done) | (simp [*]; done)), H', ⟨Nat.le_refl _⟩, HB⟩
    case round =>
      clear H' HB
      obtain ⟨x3, x11, rfl, rfl, HA, HK1, HB⟩ := hrel
      cases gk with
      | zero => exact absurd HA.out (by simp [impl_WorkArea.l0])
      | succ k1 =>
        have H := HA.out
        clear HA
        simp only [impl_WorkArea.l0] at H
        by_cases c5 : x11 < 201
        · rw [if_pos c5] at H
          by_cases c6 : 0 ≤ x11
          · rw [if_pos c6] at H
            have c5b0 : decide (x11 < 201) = true := decide_eq_true c5
            have H' := Aside0.mk H
            have C5 := Aside0.mk c5
            have C6 := Aside0.mk c6
            clear H c5 c6
            go_wp2_with (first | ((with_reducible refine gate_dst (N := 13) rfl ?_); refine Kd.event_run (v := .int .i64 (rd y x11)) (w1 := wr) ?hg ?hr ?_; (case hg => rfl); (case hr => exact index_arr _ _ x11 rfl rfl rfl HY.out C6.out C5.out)))
            go_roundg k1
            case measure => have := HK1.out; omega
            case rel => exact ⟨_, _, (by first | rfl | (simp; done) | (simp [*]; done)), (by first | rfl | (simp; done) | (simp [*]; done)), H', ⟨by have := HK1.out; omega⟩, HB⟩
          · rw [if_neg c6] at H
            exact absurd H (by simp)
        · rw [if_neg c5] at H
          have c5b0 : decide (x11 < 201) = false := decide_eq_false c5
          clear c5
          obtain rfl := Option.some.inj H
          go_wp2
          go_ret
          exact ⟨rfl, HB.out⟩
  · have c3b : t166 = false := by simpa using c3
    subst c3b
    have H1 : (-1 : Int) = r := by rw [if_neg c3] at H; exact Option.some.inj H
    subst H1
    clear H c3
    go_enter Try.func26, Try.ntmps26
    go_wp2_with (first | (go_at_call 55; (with_reducible refine (impl_CustomersOk.calls k _ _ l0 false _ ?side1 ?side2 A2.out).mono ?_); (case side1 => exact HR0.out); (case side2 => exact HC0.out); rintro e w5 ⟨rfl, hb⟩; have n0_ := Aside0.mk (below_step HB.out hb); clear HB; have HB := n0_; clear n0_; clear hb))
    go_ret
    exact ⟨rfl, HB.out⟩

end Go.Proofs.Ytlainmahnfnhkaa.PFnWorkArea
