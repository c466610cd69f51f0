/- Contracts of the functions that the law FnByRatio uses, written by a program of this session (wip/print2.py) over a turned copy of the kit's print; nothing is assumed. -/
import Derived.Test.YtclodndgieefcaaQFnByRatiox0
import Derived.Test.YtclodndgieefcaaQFnByRatiox1
import Derived.Test.YtclodndgieefcaaQFnByRatiox2
import Derived.Test.YtclodndgieefcaaQFnByRatiox3
import Derived.Test.YtclodndgieefcaaQFnByRatiox4
namespace Go.Proofs.Ytclodndgieefcaa.PFnByRatio
open Go.RowKit Go.Proofs.YtclodndgieefcaaW.PrintWords Go.Proofs.YtclodndgieefcaaW.PrintLast Go.Proofs.YtclodndgieefcaaW.PrintMore
attribute [local go_sem] max2_int min2_int max_two min_two max_three min_three max_four min_four   -- for this text's walks alone
set_option linter.unusedVariables false
set_option linter.unusedSimpArgs false

/-! ### impl_LeastWeighted: function 31, with orders (55), its closure (64), LeastWeighted's (56) -/
set_option maxHeartbeats 8000000 in
set_option maxRecDepth 100000 in
theorem lw56 (k : Nat) (l : List S36) (o : List Int) (v n : Int) (AL AO : Option Addr) (cl co bl bv : Nat) (w : World)
    (hl : w.cell? ⟨bl, 0, none⟩ = some (.slice AL l.length cl)) (hcl : l.length ≤ cl) (hC : Kd.C k36 w AL l.length l) (hO : Kd.C (Kd.int .i64) w AO o.length o) (hco : o.length ≤ co)
    (hv : w.cell? ⟨bv, 0, none⟩ = some (.int .i64 v)) (hf : w.frozen? ⟨bv, 0, none⟩ = false) (h : impl_weighted.f k l o = some n) :
    Calls Try.prog 56 #[.slice AO o.length co, .pointer (some ⟨bl, 0, none⟩), .pointer (some ⟨bv, 0, none⟩)] w fun e w' => e = .returned (.tuple #[]) ∧ ∃ m, w' = (if v < 0 ∨ n < v then (w.drewN m).setCell ⟨bv, 0, none⟩ (.int .i64 n) else w.drewN m) := by
  have HC := Aside0.mk hC
  have HO := Aside0.mk hO
  have H := Aside0.mk h
  have HCL := Aside0.mk hcl
  have HCO := Aside0.mk hco
  clear hC hO h hcl hco
  by_cases c1 : v < 0
  · have d1 : decide (v < 0) = true := decide_eq_true c1
    go_enter Try.func56, Try.ntmps56
    go_wp2_with (first | (go_at_call 54; (with_reducible refine (impl_weighted.calls k _ _ l _ _ o n _ ?side1 ?side2 ?side3 ?side4 H.out).mono ?_); (case side1 => exact HC.out); (case side2 => exact HCL.out); (case side3 => exact HO.out); (case side4 => exact HCO.out); rintro e w5 ⟨rfl, hb⟩; obtain ⟨⟨m, hm⟩⟩ := hb; have hv5 : w5.cell? { block := bv, off := 0 } = some (.int .i64 v) := (by rw [hm]; exact hv); have hf5 : w5.frozen? { block := bv, off := 0 } = false := (by rw [hm]; exact hf); have HM := Aside0.mk hm; clear hm))
    go_end0
    exact ⟨rfl, m, by simp [c1, HM.out]⟩
  · have d1 : decide (v < 0) = false := decide_eq_false c1
    by_cases c2 : n < v
    · have d2 : decide (n < v) = true := decide_eq_true c2
      go_enter Try.func56, Try.ntmps56
      go_wp2_with (first | (go_at_call 54; (with_reducible refine (impl_weighted.calls k _ _ l _ _ o n _ ?side1 ?side2 ?side3 ?side4 H.out).mono ?_); (case side1 => exact HC.out); (case side2 => exact HCL.out); (case side3 => exact HO.out); (case side4 => exact HCO.out); rintro e w5 ⟨rfl, hb⟩; obtain ⟨⟨m, hm⟩⟩ := hb; have hv5 : w5.cell? { block := bv, off := 0 } = some (.int .i64 v) := (by rw [hm]; exact hv); have hf5 : w5.frozen? { block := bv, off := 0 } = false := (by rw [hm]; exact hf); have HM := Aside0.mk hm; clear hm))
      go_end0
      exact ⟨rfl, m, by simp [c2, HM.out]⟩
    · have d2 : decide (n < v) = false := decide_eq_false c2
      go_enter Try.func56, Try.ntmps56
      go_wp2_with (first | (go_at_call 54; (with_reducible refine (impl_weighted.calls k _ _ l _ _ o n _ ?side1 ?side2 ?side3 ?side4 H.out).mono ?_); (case side1 => exact HC.out); (case side2 => exact HCL.out); (case side3 => exact HO.out); (case side4 => exact HCO.out); rintro e w5 ⟨rfl, hb⟩; obtain ⟨⟨m, hm⟩⟩ := hb; have hv5 : w5.cell? { block := bv, off := 0 } = some (.int .i64 v) := (by rw [hm]; exact hv); have hf5 : w5.frozen? { block := bv, off := 0 } = false := (by rw [hm]; exact hf); have HM := Aside0.mk hm; clear hm))
      go_end0
      exact ⟨rfl, m, by simp [c1, c2, HM.out]⟩
/-- The variables of impl.LeastWeighted and impl.orders, and least's number. -/
structure OV (w0 W : World) (bm bt by_ bl bv many : Nat) (AL : Option Addr) (cl : Nat) (l : List S36) (v : Int) : Prop where
  hm : W.cell? ⟨bm, 0, none⟩ = some (.int .i64 many)
  ht : W.cell? ⟨bt, 0, none⟩ = some (.func (.func 56) #[] #[.pointer (some ⟨bl, 0, none⟩), .pointer (some ⟨bv, 0, none⟩)])
  hy : W.cell? ⟨by_, 0, none⟩ = some (.func (.func 64) #[] #[.pointer (some ⟨bm, 0, none⟩), .pointer (some ⟨bt, 0, none⟩), .pointer (some ⟨by_, 0, none⟩)])
  hl : W.cell? ⟨bl, 0, none⟩ = some (.slice AL l.length cl)
  hB : Below w0.heap.size w0 W
  hv : W.cell? ⟨bv, 0, none⟩ = some (.int .i64 v)
  hf : W.frozen? ⟨bv, 0, none⟩ = false
  n1 : bm ≠ bv
  n2 : bt ≠ bv
  n3 : by_ ≠ bv
  n4 : bl ≠ bv
  nv : w0.heap.size ≤ bv
theorem OV.keep {w0 W W' : World} {bm bt by_ bl bv many : Nat} {AL : Option Addr} {cl : Nat} {l : List S36} {v v' : Int} (h : OV w0 W bm bt by_ bl bv many AL cl l v) (hk : KeepBut W W' bv none) (hb : Below w0.heap.size w0 W')
    (hv : W'.cell? ⟨bv, 0, none⟩ = some (.int .i64 v')) (hf : W'.frozen? ⟨bv, 0, none⟩ = false) : OV w0 W' bm bt by_ bl bv many AL cl l v' :=
  ⟨keep_cell hk h.hm h.n1, keep_cell hk h.ht h.n2, keep_cell hk h.hy h.n3, keep_cell hk h.hl h.n4, hb, hv, hf, h.n1, h.n2, h.n3, h.n4, h.nv⟩
theorem OV.below {w0 W W' : World} {bm bt by_ bl bv many : Nat} {AL : Option Addr} {cl : Nat} {l : List S36} {v : Int} (h : OV w0 W bm bt by_ bl bv many AL cl l v) (hb : Below W.heap.size W W') : OV w0 W' bm bt by_ bl bv many AL cl l v :=
  h.keep (KeepBut.of_below hb bv none) (below_step h.hB hb) ((hb.cell (World.block_lt_of_cell? W _ h.hv)).trans h.hv) ((hb.frozen (p := ⟨bv, 0, none⟩) (World.block_lt_of_cell? W _ h.hv)).trans h.hf)
def LwPost (w0 W : World) (bm bt by_ bl bv many : Nat) (AL : Option Addr) (cl : Nat) (l : List S36) (r : Int) (e : Ending) (W' : World) : Prop :=
  e = .returned (.tuple #[]) ∧ KeepBut W W' bv none ∧ OV w0 W' bm bt by_ bl bv many AL cl l r
theorem lw56p (k : Nat) (l : List S36) (o : List Int) (v n : Int) (AL AO : Option Addr) (cl co bm bt by_ bl bv many : Nat) (w0 w : World)
    (hcl : l.length ≤ cl) (hC : Kd.C k36 w0 AL l.length l) (hO : Kd.C (Kd.int .i64) w AO o.length o) (hco : o.length ≤ co) (hV : OV w0 w bm bt by_ bl bv many AL cl l v) (h : impl_weighted.f k l o = some n) :
    Calls Try.prog 56 #[.slice AO o.length co, .pointer (some ⟨bl, 0, none⟩), .pointer (some ⟨bv, 0, none⟩)] w (LwPost w0 w bm bt by_ bl bv many AL cl l (if v < 0 ∨ n < v then n else v)) := by
  refine (lw56 k l o v n AL AO cl co bl bv w hV.hl hcl (Kd.C_below hC hV.hB) hO hco hV.hv hV.hf h).mono ?_
  rintro e w' ⟨rfl, m, hm⟩
  refine ⟨rfl, ?_⟩
  subst hm
  split
  · rename_i hc
    have hlt := World.block_lt_of_cell? w _ hV.hv
    refine ⟨(keep_drewN (KeepBut.refl w bv none) m).set_ 0 _, hV.keep ((keep_drewN (KeepBut.refl w bv none) m).set_ 0 _) ((pw_below_drewN hV.hB m).setCell hV.nv _) ?_ ?_⟩
    · exact World.cell?_setCell_same (w.drewN m) _ _ hV.hv
    · go_simp
      exact hV.hf
  · exact ⟨keep_drewN (KeepBut.refl w bv none) m, hV.below (pw_below_drewN (Below.refl _ _) m)⟩
mutual
def impl_orders.g : Nat → List S36 → Int → List Int → Int → Option Int
  | 0, _, _, _, _ => none
  | k + 1, l, m, o, v => if (o.length : Int) = m then ((impl_weighted.f k l o).bind fun n => (some (if v < 0 ∨ n < v then n else v))) else (impl_orders.l0 k l m o v 0)
def impl_orders.l0 : Nat → List S36 → Int → List Int → Int → Int → Option Int
  | 0, _, _, _, _, _ => none
  | k + 1, l, m, o, v, i => if i < m then ((slices_Contains_int_int.f k o i).bind fun t => (if t = true then (impl_orders.l0 k l m o v (wrap64 (i + 1))) else (if o.length < 1000 then ((impl_orders.g k l m (o ++ [i]) v).bind fun v' => (impl_orders.l0 k l m o v' (wrap64 (i + 1)))) else (none)))) else (some v)
end
def impl_LeastWeighted.f (k : Nat) (l0 : List (S36)) : Option (Int) := (impl_TasksOk.f k l0).bind fun t => (if t = true then (impl_orders.g k l0 (l0.length : Int) [] (-1)) else (some (-1)))
theorem impl_orders.mono_gl : ∀ k, (∀ l m o v, LeO (impl_orders.g k l m o v) (impl_orders.g (k + 1) l m o v)) ∧ (∀ l m o v i, LeO (impl_orders.l0 k l m o v i) (impl_orders.l0 (k + 1) l m o v i))
  | 0 => ⟨fun _ _ _ _ r h => by simp [impl_orders.g] at h, fun _ _ _ _ _ r h => by simp [impl_orders.l0] at h⟩
  | k + 1 => by
    obtain ⟨ihg, ihl⟩ := impl_orders.mono_gl k
    refine ⟨fun l m o v => ?_, fun l m o v i => ?_⟩
    · unfold impl_orders.g
      exact LeO.ite (LeO.bind (impl_weighted.mono _ _ _) (fun _ => LeO.refl _)) (ihl _ _ _ _ _)
    · unfold impl_orders.l0
      exact LeO.ite (LeO.bind (slices_Contains_int_int.mono _ _ _) (fun _ => LeO.ite (ihl _ _ _ _ _) (LeO.ite (LeO.bind (ihg _ _ _ _) (fun _ => ihl _ _ _ _ _)) (LeO.none _)))) (LeO.refl _)
theorem impl_LeastWeighted.mono : ∀ a0 k, LeO (impl_LeastWeighted.f k a0) (impl_LeastWeighted.f (k + 1) a0) := by
  intro a0 k
  unfold impl_LeastWeighted.f
  exact LeO.bind (impl_TasksOk.mono _ _) (fun _ => LeO.ite ((impl_orders.mono_gl k).1 _ _ _ _) (LeO.refl _))
theorem newrow (w : World) (i : Int) : Kd.C (Kd.int .i64) (w.alloc (.cells #[.int .i64 i] 3)) (some ⟨w.heap.size, 0, none⟩) 1 [i] :=
  Kd.C_of_reads (enc := Value.int .i64) (d := (0 : Int)) (h1 := fun _ => rfl) ⟨rfl, by decide, fun _ => ⟨_, rfl, fun j hj => by
    obtain rfl : j = 0 := by omega
    go_simp⟩⟩
set_option maxHeartbeats 8000000 in
set_option maxRecDepth 100000 in
theorem lw64 (many : Nat) (l : List S36) (AL : Option Addr) (cl bm bt by_ bl bv : Nat) (w0 : World) (hcl : l.length ≤ cl) (hC : Kd.C k36 w0 AL l.length l) :
    ∀ (k : Nat) (o : List Int) (v r : Int), impl_orders.g k l (many : Int) o v = some r → ∀ (AO : Option Addr) (co : Nat) (w : World), OV w0 w bm bt by_ bl bv many AL cl l v → Kd.C (Kd.int .i64) w AO o.length o →
      (∀ ad, AO = some ad → 0 < o.length → ad.block ≠ bv) → o.length ≤ co →
    Calls Try.prog 64 #[.slice AO o.length co, .pointer (some ⟨bm, 0, none⟩), .pointer (some ⟨bt, 0, none⟩), .pointer (some ⟨by_, 0, none⟩)] w (LwPost w0 w bm bt by_ bl bv many AL cl l r) := by
  intro k
  induction k using Nat.strongRecOn with
  | ind k ih =>
  intro o v r h AO co w hV hO hne hco
  have hm := hV.hm
  have ht := hV.ht
  have HV := Aside0.mk hV
  have HO := Aside0.mk hO
  have HN := Aside0.mk hne
  have HCO := Aside0.mk hco
  have HC := Aside0.mk hC
  have HCL := Aside0.mk hcl
  have IH := Aside0.mk ih
  clear hV hO hne hco hC hcl ih
  cases k with
  | zero => exact absurd h (by simp [impl_orders.g])
  | succ k =>
    simp only [impl_orders.g] at h
    by_cases c0 : (o.length : Int) = (many : Int)
    · rw [if_pos c0] at h
      replace h := Option.bind_eq_some_iff.mp h
      have h_ := h; obtain ⟨n, h1, h2⟩ := h_
      have HR := Aside0.mk (Option.some.inj h2)
      have H1 := Aside0.mk h1
      have d0 : ((o.length : Int) == (many : Int)) = true := by simpa using c0
      clear h h1 h2 c0
      go_enter Try.func64, Try.ntmps64
      go_wp2_with (first | (go_at_call 56; (with_reducible refine (lw56p k l o v n AL AO cl co bm bt by_ bl bv many w0 _ HCL.out HC.out HO.out HCO.out HV.out H1.out).mono ?_); rintro e w5 ⟨rfl, hk5, hv5⟩; have HP := Aside0.mk (And.intro hk5 hv5); clear hk5 hv5))
      go_end0
      exact ⟨rfl, HP.out.1, HR.out ▸ HP.out.2⟩
    · rw [if_neg c0] at h
      have d0 : ((o.length : Int) == (many : Int)) = false := by simpa using c0
      have H' := Aside0.mk h
      clear h c0
      go_enter Try.func64, Try.ntmps64
      go_wp2
      go_loopg [14] k (fun kq v14 w' => ∃ (i v' : Int), v14 = .int .i64 i ∧ Aside0 (impl_orders.l0 kq l (many : Int) o v' i = some r) ∧ Aside0 (kq ≤ k) ∧ Aside0 (KeepBut w w' bv none) ∧ Aside0 (OV w0 w' bm bt by_ bl bv many AL cl l v'))
      case atStart => exact ⟨0, v, rfl, H', ⟨Nat.le_refl _⟩, ⟨KeepBut.refl _ _ _⟩, HV⟩
      case round =>
        clear H' HV hm ht
        obtain ⟨i, v', rfl, HA, HK1, HKB, HV⟩ := hrel
        cases gk with
        | zero => exact absurd HA.out (by simp [impl_orders.l0])
        | succ k1 =>
          have H := HA.out
          clear HA
          simp only [impl_orders.l0] at H
          by_cases c1 : i < (many : Int)
          · rw [if_pos c1] at H
            have d1 : decide (i < (many : Int)) = true := decide_eq_true c1
            obtain ⟨t, ht1, H⟩ := Option.bind_eq_some_iff.mp H
            have HT := Aside0.mk ht1
            have C1 := Aside0.mk c1
            clear ht1 c1
            cases t with
            | true =>
              rw [if_pos rfl] at H
              have H' := Aside0.mk H
              clear H
              go_wp2_with (first | (go_at_call 45; (with_reducible refine (slices_Contains_int_int.calls k1 _ _ o i true _ ?side1 ?side2 HT.out).mono ?_); (case side1 => exact Kd.C_keep (d := (0 : Int)) HO.out HKB.out HN.out); (case side2 => exact HCO.out); rintro e w5 ⟨rfl, hb⟩; have n1_ := Aside0.mk (HV.out.below hb.below); have n2_ := Aside0.mk (HKB.out.trans (KeepBut.of_below hb.below bv none) (.inl rfl)); clear HV HKB hb; have HV := n1_; have HKB := n2_; clear n1_ n2_))
              go_roundg k1
              case measure => have := HK1.out; omega
              case rel => exact ⟨_, _, (by first | rfl | (simp; done) | (simp [*]; done)), H', ⟨by have := HK1.out; omega⟩, HKB, HV⟩
            | false =>
              rw [if_neg (by simp)] at H
              go_wp2_with (first | (go_at_call 45; (with_reducible refine (slices_Contains_int_int.calls k1 _ _ o i false _ ?side1 ?side2 HT.out).mono ?_); (case side1 => exact Kd.C_keep (d := (0 : Int)) HO.out HKB.out HN.out); (case side2 => exact HCO.out); rintro e w5 ⟨rfl, hb⟩; have n1_ := Aside0.mk (HV.out.below hb.below); have n2_ := Aside0.mk (HKB.out.trans (KeepBut.of_below hb.below bv none) (.inl rfl)); clear HV HKB hb; have HV := n1_; have HKB := n2_; clear n1_ n2_))
              have c2 : o.length < 1000 := Classical.byContradiction fun c2 => by rw [if_neg c2] at H; cases H
              rw [if_pos c2] at H
              obtain ⟨v2, hg, H⟩ := Option.bind_eq_some_iff.mp H
              have HG := Aside0.mk hg
              have H' := Aside0.mk H
              have C2 := Aside0.mk c2
              clear hg H c2
              have hs := HV.out.hy
              refine start_ (n := 7) (S := fun w' => w'.cell? ⟨by_, 0, none⟩ = some (.func (.func 64) #[] #[.pointer (some ⟨bm, 0, none⟩), .pointer (some ⟨bt, 0, none⟩), .pointer (some ⟨by_, 0, none⟩)])) (ds := []) #[false, false, false, false, false, false, false] (by kernel_rfl) rfl rfl hs (fun hHeld => ?_)
              have n1_ := Aside0.mk (HV.out.below (below_drew (Below.refl _ w5)))
              have n2_ := Aside0.mk (HKB.out.trans (KeepBut.of_below (below_drew (Below.refl _ w5)) bv none) (.inl rfl))
              clear HV HKB hs
              have HV := n1_
              have HKB := n2_
              clear n1_ n2_
              generalize w5.drew = w9 at HV HKB hHeld ⊢
              refine pure_ (i := 1) (N := some 22) (v := ?_) (a' := ?_) #[false, true, false, false, false, false, false] rfl rfl (by kernel_rfl) (fun _ _ _ h => h) (Or.inl ⟨by rfl, ?_⟩) ?_ ?_
              rotate_left
              · intro w'
                go_simp
                with_reducible rfl
              rotate_left
              · simp only [Act.put, List.setIfInBounds_toArray, List.set_cons_zero, List.set_cons_succ, i64_w, i32_w]
                rfl
              refine pure_ (i := 3) (N := some 24) (v := ?_) (a' := ?_) #[false, true, false, true, false, false, false] rfl rfl (by kernel_rfl) (fun _ _ _ h => h) (Or.inl ⟨by rfl, ?_⟩) ?_ ?_
              rotate_left
              · intro w'
                go_simp
                with_reducible rfl
              rotate_left
              · simp only [Act.put, List.setIfInBounds_toArray, List.set_cons_zero, List.set_cons_succ, i64_w, i32_w]
                rfl
              refine take_ (i := 0) (N := some 21) (v := ?_) (a' := ?_) #[true, true, false, true, false, false, false] rfl rfl (by kernel_rfl) (fun _ _ _ h => h) (Or.inl ⟨by rfl, ?_⟩) hHeld ?_ ?_
              rotate_left
              · intro w' hw'
                go_simp
                with_reducible rfl
              rotate_left
              · simp only [Act.put, List.setIfInBounds_toArray, List.set_cons_zero, List.set_cons_succ, i64_w, i32_w]
                rfl
              have HO9 : Aside0 (Kd.C (Kd.int .i64) w9 AO o.length o) := ⟨Kd.C_keep (d := (0 : Int)) HO.out HKB.out HN.out⟩
              have hcl : slices_Clone_int_int.f o = some o := by unfold slices_Clone_int_int.f; exact if_pos (by have := C2.out; omega)
              have HCL5 := Aside0.mk hcl
              clear hcl
              refine join_ (σ := Value × Nat) 2 #[true, true, true, true, true, false, false] (fun s => [(23, s.1), (25, .slice (some ⟨s.2, 0, none⟩) 1 1)]) (fun s w' => Kd.R (Kd.int .i64) 3 w' w9.heap.size (fun _ => True) s.1 o ∧ Kd.C (Kd.int .i64) w' (some ⟨s.2, 0, none⟩) 1 [i] ∧ Below w9.heap.size w9 w') ?cont (fun hcont => ?_)
              case cont =>
                rintro ⟨v23, g⟩ w10 ⟨hR, hC1, hb⟩
                refine norm_ (a' := ?_) ?_ ?_
                rotate_left
                · simp only [putAll, Act.put, List.setIfInBounds_toArray, List.set_cons_zero, List.set_cons_succ]
                  rfl
                refine one_ (i := 5) (N := some 26) #[true, true, true, true, true, true, false] rfl rfl (by kernel_rfl) (by decide) (fun K hK => ?_)
                refine Kd.R_append_rows_step (Kd.int .i64) (w0 := w9) w9.heap.size (by rfl) (.tmp 23) (.tmp 25) 22 3 (.int .i64 0) 8 rfl Try.underlying22 info3 rfl (by decide) (by omega) v23 o [i] (some ⟨g, 0, none⟩) 1 1 (fun _ => True) (fun _ => False) (by rfl) (by rfl) hR hC1 (fun _ _ h => h) (fun _ h => h.elim) (fun _ _ => trivial) hb hb.size (by have := C2.out; omega) ?_
                intro v26 w11 hR1 hb1 hg1 hat1
                refine hK.out _ _ ((hb1.cell (World.block_lt_of_cell? w9 _ hHeld)).trans hHeld) (fun hHeld1 => ?_)
                refine norm_ (a' := ?_) ?_ ?_
                rotate_left
                · simp only [putAll, Act.put, List.setIfInBounds_toArray, List.set_cons_zero, List.set_cons_succ]
                  rfl
                obtain ⟨A26, c26, rfl, hle, hC26⟩ := Kd.R_reads hR1
                refine one_ (i := 6) (N := some 27) #[true, true, true, true, true, true, true] rfl rfl (by kernel_rfl) (by decide) (fun K' hK' => ?_)
                refine call_ 64 #[.slice A26 (o ++ [i]).length c26, .pointer (some ⟨bm, 0, none⟩), .pointer (some ⟨bt, 0, none⟩), .pointer (some ⟨by_, 0, none⟩)] (by rfl) rfl ?hr ?_
                case hr =>
                  have he := enters_ Try.func64 (by kernel_rfl) rfl #[.slice A26 (o ++ [i]).length c26, .pointer (some ⟨bm, 0, none⟩), .pointer (some ⟨bt, 0, none⟩), .pointer (some ⟨by_, 0, none⟩)] w11
                  unfold execOp
                  simp [resolve, Deferred.ofValue, invoke, Act.eval, he]
                have hne26 : ∀ ad, A26 = some ad → 0 < (o ++ [i]).length → ad.block ≠ bv := by
                  intro ad e _ e2
                  subst e
                  have h1 := World.block_lt_of_cell? w9 _ HV.out.hv
                  obtain ⟨_, inner, hown, _⟩ := hR1
                  have h2 := own_base hown ad.block rfl
                  simp only at h1
                  omega
                refine (IH.out k1 (by have := HK1.out; omega) (o ++ [i]) v' v2 HG.out A26 c26 w11 (HV.out.below hb1) hC26 hne26 hle).mono ?_
                rintro e w12 ⟨rfl, hk12, hv12⟩
                refine ⟨_, rfl, ?_⟩
                have n1_ := Aside0.mk ((HKB.out.trans (KeepBut.of_below hb1 bv none) (.inl rfl)).trans hk12 (.inl rfl))
                refine hK'.out _ _ hv12.hy (fun _ => ?_)
                refine norm_ (a' := ?_) ?_ ?_
                rotate_left
                · simp only [putAll, Act.put, List.setIfInBounds_toArray, List.set_cons_zero, List.set_cons_succ]
                  rfl
                refine done_ (by kernel_rfl) ?_
                have n2_ := Aside0.mk hv12
                clear HV HKB hHeld HO9 hR hC1 hb hR1 hb1 hg1 hat1 hHeld1 hC26 hne26 hk12 hv12 hK hK'
                have HV := n2_
                have HKB := n1_
                clear n1_ n2_
                go_wp2
                go_roundg k1
                case measure => have := HK1.out; omega
                case rel => exact ⟨_, _, (by first | rfl | (simp; done) | (simp [*]; done)), H', ⟨by have := HK1.out; omega⟩, HKB, HV⟩
              refine two_ (i := 2) (j := 4) (Ni := some 23) (Nj := some 25) #[true, true, true, true, false, false, false] #[true, true, false, true, true, false, false] rfl rfl rfl rfl (by kernel_rfl) (by decide) (by decide) (fun K hK => ?_) (fun K hK => ?_)
              · refine goes_ Try.func59 (by kernel_rfl) rfl #[.slice AO o.length co] (by rfl) rfl rfl (by (try simp only [List.map_toArray, List.map_cons, List.map_nil]); first | done | rfl) ?_
                with_reducible refine (slices_Clone_int_int.calls AO co o o _ HO9.out HCO.out HCL5.out).mono ?_
                rintro e w10 ⟨v23, rfl, hR, hb⟩
                refine ⟨_, rfl, ?_⟩
                refine hK.out _ _ ((hb.cell (World.block_lt_of_cell? w9 _ hHeld)).trans hHeld) (fun hHeld => ?_)
                refine norm_ (a' := ?_) ?_ ?_
                rotate_left
                · simp only [putAll, Act.put, List.setIfInBounds_toArray, List.set_cons_zero, List.set_cons_succ]
                  rfl
                refine one_ (i := 4) (N := some 25) #[true, true, true, true, true, false, false] rfl rfl (by kernel_rfl) (by decide) (fun K' hK' => ?_)
                refine value_ (v := .slice (some ⟨w10.heap.size, 0, none⟩) 1 1) (w1 := w10.alloc (.cells #[.int .i64 i] 3)) (by rfl) rfl ?hr ?_
                case hr => first | (go_simp; done) | (go_simp; rfl)
                refine hK'.out _ _ (((below_alloc (Below.refl _ w10) _).cell (World.block_lt_of_cell? w10 _ hHeld)).trans hHeld) (fun _ => ?_)
                exact hcont (v23, w10.heap.size) _ ⟨Kd.R_alloc hR _, newrow w10 i, below_alloc hb _⟩
              · refine value_ (v := .slice (some ⟨w9.heap.size, 0, none⟩) 1 1) (w1 := w9.alloc (.cells #[.int .i64 i] 3)) (by rfl) rfl ?hr ?_
                case hr => first | (go_simp; done) | (go_simp; rfl)
                have hb9 := below_alloc (Below.refl w9.heap.size w9) (.cells #[.int .i64 i] 3)
                refine hK.out _ _ ((hb9.cell (World.block_lt_of_cell? w9 _ hHeld)).trans hHeld) (fun hHeld => ?_)
                refine norm_ (a' := ?_) ?_ ?_
                rotate_left
                · simp only [putAll, Act.put, List.setIfInBounds_toArray, List.set_cons_zero, List.set_cons_succ]
                  rfl
                refine one_ (i := 2) (N := some 23) #[true, true, true, true, true, false, false] rfl rfl (by kernel_rfl) (by decide) (fun K' hK' => ?_)
                refine goes_ Try.func59 (by kernel_rfl) rfl #[.slice AO o.length co] (by rfl) rfl rfl (by (try simp only [List.map_toArray, List.map_cons, List.map_nil]); first | done | rfl) ?_
                with_reducible refine (slices_Clone_int_int.calls AO co o o _ (Kd.C_alloc HO9.out _) HCO.out HCL5.out).mono ?_
                rintro e w10 ⟨v23, rfl, hR, hb⟩
                refine ⟨_, rfl, ?_⟩
                refine hK'.out _ _ ((hb.cell (World.block_lt_of_cell? _ _ hHeld)).trans hHeld) (fun _ => ?_)
                exact hcont (v23, w9.heap.size) _ ⟨Kd.R_lower hR (by simp), Kd.C_below (newrow w9 i) hb, below_step hb9 hb⟩
          · rw [if_neg c1] at H
            have d1 : decide (i < (many : Int)) = false := decide_eq_false c1
            clear c1
            obtain rfl := Option.some.inj H
            go_wp2
            go_end0
            exact ⟨rfl, HKB.out, HV.out⟩
def LwEnd (w0 : World) (bv : Nat) (r : Int) (e : Ending) (W : World) : Prop := e = .returned (.tuple #[]) ∧ Below w0.heap.size w0 W ∧ W.cell? ⟨bv, 0, none⟩ = some (.int .i64 r)
set_option maxHeartbeats 8000000 in
set_option maxRecDepth 100000 in
theorem lw55 (k many : Nat) (l : List S36) (AL : Option Addr) (cl bl bv : Nat) (v r : Int) (w0 w : World) (hcl : l.length ≤ cl) (hC : Kd.C k36 w0 AL l.length l)
    (hl : w.cell? ⟨bl, 0, none⟩ = some (.slice AL l.length cl)) (hv : w.cell? ⟨bv, 0, none⟩ = some (.int .i64 v)) (hf : w.frozen? ⟨bv, 0, none⟩ = false) (hB : Below w0.heap.size w0 w) (nv : w0.heap.size ≤ bv) (n4 : bl ≠ bv)
    (h : impl_orders.g k l (many : Int) [] v = some r) :
    Calls Try.prog 55 #[.int .i64 many, .func (.func 56) #[] #[.pointer (some ⟨bl, 0, none⟩), .pointer (some ⟨bv, 0, none⟩)]] w (LwEnd w0 bv r) := by
  have HC := Aside0.mk hC
  have HCL := Aside0.mk hcl
  have H := Aside0.mk h
  have HL := Aside0.mk hl
  have HVV := Aside0.mk hv
  have HF := Aside0.mk hf
  have HB := Aside0.mk hB
  have NV := Aside0.mk nv
  have N4 := Aside0.mk n4
  have L1 := Aside0.mk (World.block_lt_of_cell? w _ hl)
  have L2 := Aside0.mk (World.block_lt_of_cell? w _ hv)
  clear hC hcl h hl hv hf hB nv n4
  have hst : ∀ (a : Addr) (fn : Fn) (f1 f2 : Array Value) (m : Mode) (w1 : World), (store a (.func fn f1 f2) m).run Try.prog w1 = stored Try.prog w1 a (.func fn f1 f2) m := fun a fn f1 f2 m w1 => run_store Try.prog w1 a _ m rfl
  go_enter Try.func55, Try.ntmps55
  go_wp2_with fail
  have B3 := fun o1 o2 o3 => below_alloc (below_alloc (below_alloc (Below.refl w.heap.size w) o1) o2) o3
  refine (lw64 many l AL cl w.heap.size (w.heap.size + 1) (w.heap.size + 1 + 1) bl bv w0 HCL.out HC.out k [] v r H.out none 0 _ ⟨?a1, ?a2, ?a3, ((B3 _ _ _).cell L1.out).trans HL.out, below_step HB.out (B3 _ _ _), ((B3 _ _ _).cell L2.out).trans HVV.out, ((B3 _ _ _).frozen (p := ⟨bv, 0, none⟩) L2.out).trans HF.out, ?a4, ?a5, ?a6, N4.out, NV.out⟩ ?a7 ?a8 (Nat.le_refl _)).mono ?_
  case a1 => go_simp
  case a2 => go_simp
  case a3 => go_simp
  case a4 => have := L2.out; omega
  case a5 => have := L2.out; omega
  case a6 => have := L2.out; omega
  case a7 => exact ⟨rfl, by decide, fun h => absurd h (by decide)⟩
  case a8 => exact fun ad e => by cases e
  rintro e w5 ⟨rfl, _, hV⟩
  have HV := Aside0.mk hV
  clear hV
  go_wp2
  go_end0
  exact ⟨rfl, HV.out.hB, HV.out.hv⟩
set_option maxHeartbeats 8000000 in
set_option maxRecDepth 100000 in
theorem impl_LeastWeighted.calls (k : Nat) (A0 : Option Addr) (c0 : Nat) (l0 : List (S36)) (r : Int) (w : World) (hr0 : Kd.C k36 w A0 l0.length l0) (hc0 : l0.length ≤ c0) (h : impl_LeastWeighted.f k l0 = some r) :
    Calls Try.prog 31 #[.slice A0 l0.length c0] w fun e w' => e = .returned (.int .i64 r) ∧ Below w.heap.size w w' := by
  have HR0 := Aside0.mk hr0
  have HC0 := Aside0.mk hc0
  clear hr0 hc0
  have HB := Aside0.mk (Below.refl w.heap.size w)
  unfold impl_LeastWeighted.f at h
  obtain ⟨t, h1, h2⟩ := Option.bind_eq_some_iff.mp h
  have H1 := Aside0.mk h1
  clear h h1
  cases t with
  | false =>
    have H2 : (-1 : Int) = r := by rw [if_neg (by simp)] at h2; exact Option.some.inj h2
    subst H2
    clear h2
    go_enter Try.func31, Try.ntmps31
    go_wp2_with (first | (go_at_call 22; (with_reducible refine (impl_TasksOk.calls k _ _ l0 false _ ?side1 ?side2 H1.out).mono ?_); (case side1 => exact (Kd.C_alloc HR0.out _)); (case side2 => exact HC0.out); rintro e w5 ⟨rfl, hb⟩; have n0_ := Aside0.mk (below_step (below_alloc HB.out _) hb); clear HB; have HB := n0_; clear n0_; clear hb))
    go_ret
    exact ⟨rfl, HB.out⟩
  | true =>
    have H2 := Aside0.mk (show impl_orders.g k l0 (l0.length : Int) [] (-1) = some r by rw [if_pos rfl] at h2; exact h2)
    clear h2
    have hst : ∀ (a : Addr) (fn : Fn) (f1 f2 : Array Value) (m : Mode) (w1 : World), (store a (.func fn f1 f2) m).run Try.prog w1 = stored Try.prog w1 a (.func fn f1 f2) m := fun a fn f1 f2 m w1 => run_store Try.prog w1 a _ m rfl
    go_enter Try.func31, Try.ntmps31
    go_wp2_with fail
    refine (impl_TasksOk.calls k _ _ l0 true _ (Kd.C_alloc HR0.out _) HC0.out H1.out).mono ?_
    rintro e w5 ⟨rfl, hb⟩
    have hl5 : w5.cell? ⟨w.heap.size, 0, none⟩ = some (.slice A0 l0.length c0) := (hb.cell (p := ⟨w.heap.size, 0, none⟩) (by simp)).trans (by go_simp)
    have n0_ := Aside0.mk (below_step (below_alloc HB.out _) hb)
    have LT := Aside0.mk (show w.heap.size + 1 ≤ w5.heap.size by have := hb.size; simpa using this)
    clear HB hb
    have HB := n0_
    clear n0_
    have hl6 : (w5.alloc (.cells #[.int .i64 (-1)] 3)).cell? ⟨w.heap.size, 0, none⟩ = some (.slice A0 l0.length c0) := ((below_alloc (Below.refl _ w5) _).cell (World.block_lt_of_cell? w5 _ hl5)).trans hl5
    have hv6 : (w5.alloc (.cells #[.int .i64 (-1)] 3)).cell? ⟨w5.heap.size, 0, none⟩ = some (.int .i64 (-1)) := by go_simp
    have hf6 : (w5.alloc (.cells #[.int .i64 (-1)] 3)).frozen? ⟨w5.heap.size, 0, none⟩ = false := by go_simp
    have HF6 := Aside0.mk hf6
    have HV6 := Aside0.mk hv6
    clear hf6 hv6
    go_wp2_with (first | (go_at_call 55; (with_reducible refine (lw55 k l0.length l0 A0 c0 w.heap.size w5.heap.size (-1) r w _ HC0.out HR0.out hl6 HV6.out HF6.out (below_alloc HB.out _) ?s1 ?s2 H2.out).mono ?_); (case s1 => have := LT.out; omega); (case s2 => have := LT.out; omega); rintro e w7 ⟨rfl, hb7, hv7⟩; have HB7 := Aside0.mk hb7; clear hb7 hl6 hl5))
    go_ret
    exact ⟨rfl, HB7.out⟩

/-! ### laws_FnByRatio: function 6 -/
def laws_FnByRatio.f (k : Nat) (l0 : List Int) : Option (Bool) := if (l0.length : Int) > 1048576 then (some true) else ((spec_DrawByRatio.f k l0).bind fun t232 => ((impl_ByRatio.f k t232).bind fun t235 => ((spec_ByRatio.f k t232).bind fun t238 => ((laws_sameInts.f k t235 t238).bind fun t241 => (if t241 = true then (if (t235.length : Int) = 0 then ((impl_TasksOk.f k t232).bind fun t242 => (if t242 = true then (some false) else ((laws_alive.f k).bind fun t243 => (some t243)))) else ((impl_EachOnce.f k t235 (t232.length : Int)).bind fun t244 => (if t244 = true then ((impl_WeightedSum.f k t232 t235).bind fun t245 => ((impl_LeastWeighted.f k t232).bind fun t246 => (some (t245 == t246)))) else (some false)))) else (some false))))))
theorem laws_FnByRatio.mono : ∀ a0 k, LeO (laws_FnByRatio.f k a0) (laws_FnByRatio.f (k + 1) a0) := by
  intro a0 k
  unfold laws_FnByRatio.f
  repeat' first
      | (with_reducible exact impl_ByRatio.mono _ _)
      | (with_reducible exact impl_EachOnce.mono _ _ _)
      | (with_reducible exact impl_LeastWeighted.mono _ _)
      | (with_reducible exact impl_TasksOk.mono _ _)
      | (with_reducible exact impl_WeightedSum.mono _ _ _)
      | (with_reducible exact laws_alive.mono _)
      | (with_reducible exact laws_sameInts.mono _ _ _)
      | (with_reducible exact spec_ByRatio.mono _ _)
      | (with_reducible exact spec_DrawByRatio.mono _ _)
      | (with_reducible exact LeO.refl _)
      | (with_reducible exact LeO.none _)
      | (with_reducible refine LeO.ite ?_ ?_)
      | (with_reducible refine LeO.bind ?_ (fun _ => ?_))
      | exact impl_ByRatio.mono _ _
      | exact impl_EachOnce.mono _ _ _
      | exact impl_LeastWeighted.mono _ _
      | exact impl_TasksOk.mono _ _
      | exact impl_WeightedSum.mono _ _ _
      | exact laws_alive.mono _
      | exact laws_sameInts.mono _ _ _
      | exact spec_ByRatio.mono _ _
      | exact spec_DrawByRatio.mono _ _
      | exact LeO.none _
      | refine LeO.ite ?_ ?_
      | refine LeO.bind ?_ (fun _ => ?_)
set_option maxHeartbeats 8000000 in
set_option maxRecDepth 100000 in
theorem laws_FnByRatio.calls (k : Nat) (A0 : Option Addr) (c0 : Nat) (l0 : List Int) (r : Bool) (w : World) (hr0 : Kd.C (Kd.int .u8) w A0 l0.length l0) (hc0 : l0.length ≤ c0) (h : laws_FnByRatio.f k l0 = some r) :
    Calls Try.prog 6 #[.slice A0 l0.length c0] w fun e w' => e = .returned (.bool r) ∧ Below w.heap.size w w' := by
  have HR0 := Aside0.mk hr0
  have HC0 := Aside0.mk hc0
  clear hr0 hc0
  have HB := Aside0.mk (Below.refl w.heap.size w)
  have H : (if (l0.length : Int) > 1048576 then (some true) else ((spec_DrawByRatio.f k l0).bind fun t232 => ((impl_ByRatio.f k t232).bind fun t235 => ((spec_ByRatio.f k t232).bind fun t238 => ((laws_sameInts.f k t235 t238).bind fun t241 => (if t241 = true then (if (t235.length : Int) = 0 then ((impl_TasksOk.f k t232).bind fun t242 => (if t242 = true then (some false) else ((laws_alive.f k).bind fun t243 => (some t243)))) else ((impl_EachOnce.f k t235 (t232.length : Int)).bind fun t244 => (if t244 = true then ((impl_WeightedSum.f k t232 t235).bind fun t245 => ((impl_LeastWeighted.f k t232).bind fun t246 => (some (t245 == t246)))) else (some false)))) else (some false))))))) = some r := h
  clear h
  by_cases c2 : (l0.length : Int) > 1048576
  · rw [if_pos c2] at H
    have c2b0 : decide (1048576 < (l0.length : Int)) = true := decide_eq_true c2
    have c2b1 : decide (1048576 < l0.length) = true := decide_eq_true (by omega)
    clear c2
    obtain rfl := Option.some.inj H
    go_enter Try.func6, Try.ntmps6
    go_wp2
    go_ret
    exact ⟨by first | rfl | (simp [errW_none, errW_some] <;> rfl) | (simp [*, errW_none, errW_some] <;> rfl), by repeat (first | (with_reducible first | exact HB.out | apply below_alloc | apply pw_below_drewN | apply below_drew1) | exact HB.out)⟩
  · rw [if_neg c2] at H
    have c2b0 : decide (1048576 < (l0.length : Int)) = false := decide_eq_false c2
    have c2b1 : decide (1048576 < l0.length) = false := decide_eq_false (by omega)
    clear c2
    replace H := Option.bind_eq_some_iff.mp H
    obtain ⟨t232, A30, H⟩ := H
    replace H : ((impl_ByRatio.f k t232).bind fun t235 => ((spec_ByRatio.f k t232).bind fun t238 => ((laws_sameInts.f k t235 t238).bind fun t241 => (if t241 = true then (if (t235.length : Int) = 0 then ((impl_TasksOk.f k t232).bind fun t242 => (if t242 = true then (some false) else ((laws_alive.f k).bind fun t243 => (some t243)))) else ((impl_EachOnce.f k t235 (t232.length : Int)).bind fun t244 => (if t244 = true then ((impl_WeightedSum.f k t232 t235).bind fun t245 => ((impl_LeastWeighted.f k t232).bind fun t246 => (some (t245 == t246)))) else (some false)))) else (some false))))) = some r := H
    have A3 := Aside0.mk A30
    clear A30
    replace H := Option.bind_eq_some_iff.mp H
    obtain ⟨t235, A40, H⟩ := H
    replace H : ((spec_ByRatio.f k t232).bind fun t238 => ((laws_sameInts.f k t235 t238).bind fun t241 => (if t241 = true then (if (t235.length : Int) = 0 then ((impl_TasksOk.f k t232).bind fun t242 => (if t242 = true then (some false) else ((laws_alive.f k).bind fun t243 => (some t243)))) else ((impl_EachOnce.f k t235 (t232.length : Int)).bind fun t244 => (if t244 = true then ((impl_WeightedSum.f k t232 t235).bind fun t245 => ((impl_LeastWeighted.f k t232).bind fun t246 => (some (t245 == t246)))) else (some false)))) else (some false)))) = some r := H
    have A4 := Aside0.mk A40
    clear A40
    replace H := Option.bind_eq_some_iff.mp H
    obtain ⟨t238, A50, H⟩ := H
    replace H : ((laws_sameInts.f k t235 t238).bind fun t241 => (if t241 = true then (if (t235.length : Int) = 0 then ((impl_TasksOk.f k t232).bind fun t242 => (if t242 = true then (some false) else ((laws_alive.f k).bind fun t243 => (some t243)))) else ((impl_EachOnce.f k t235 (t232.length : Int)).bind fun t244 => (if t244 = true then ((impl_WeightedSum.f k t232 t235).bind fun t245 => ((impl_LeastWeighted.f k t232).bind fun t246 => (some (t245 == t246)))) else (some false)))) else (some false))) = some r := H
    have A5 := Aside0.mk A50
    clear A50
    replace H := Option.bind_eq_some_iff.mp H
    obtain ⟨t241, A60, H⟩ := H
    replace H : (if t241 = true then (if (t235.length : Int) = 0 then ((impl_TasksOk.f k t232).bind fun t242 => (if t242 = true then (some false) else ((laws_alive.f k).bind fun t243 => (some t243)))) else ((impl_EachOnce.f k t235 (t232.length : Int)).bind fun t244 => (if t244 = true then ((impl_WeightedSum.f k t232 t235).bind fun t245 => ((impl_LeastWeighted.f k t232).bind fun t246 => (some (t245 == t246)))) else (some false)))) else (some false)) = some r := H
    have A6 := Aside0.mk A60
    clear A60
    by_cases c7 : t241 = true
    · subst c7
      have H1 : (if (t235.length : Int) = 0 then ((impl_TasksOk.f k t232).bind fun t242 => (if t242 = true then (some false) else ((laws_alive.f k).bind fun t243 => (some t243)))) else ((impl_EachOnce.f k t235 (t232.length : Int)).bind fun t244 => (if t244 = true then ((impl_WeightedSum.f k t232 t235).bind fun t245 => ((impl_LeastWeighted.f k t232).bind fun t246 => (some (t245 == t246)))) else (some false)))) = some r := by rw [if_pos rfl] at H; exact H
      clear H
      have H := H1
      clear H1
      by_cases c8 : (t235.length : Int) = 0
      · rw [if_pos c8] at H
        have c8b0 : ((t235.length : Int) == 0) = true := beq_iff_eq.mpr c8
        have c8b1 : ((t235.length : Int) != 0) = false := bne_eq_false_iff_eq.mpr c8
        clear c8
        replace H := Option.bind_eq_some_iff.mp H
        obtain ⟨t242, A90, H⟩ := H
        replace H : (if t242 = true then (some false) else ((laws_alive.f k).bind fun t243 => (some t243))) = some r := H
        have A9 := Aside0.mk A90
        clear A90
        by_cases c10 : t242 = true
        · subst c10
          have H1 : (some false) = some r := by rw [if_pos rfl] at H; exact H
          clear H
          have H := H1
          clear H1
          obtain rfl := Option.some.inj H
          go_enter Try.func6, Try.ntmps6
          go_wp2_with (first | ((with_reducible refine gate_callee (f := 26) rfl ?_); refine goesL_ (some 9) rfl rfl Try.func26 (by kernel_rfl) rfl #[.slice A0 l0.length c0] rfl (by (try simp only [List.map_toArray, List.map_cons, List.map_nil]); first | done | rfl | (simp only [List.length_drop, List.length_take]; rfl)) ?_; (with_reducible refine (spec_DrawByRatio.calls k _ _ l0 t232 _ ?side1 ?side2 A3.out).mono ?_); (case side1 => repeat (first | exact HR0.out | (with_reducible refine Kd.C_alloc ?_ _) | (with_reducible refine Kd.C_drewN ?_ _) | (with_reducible refine Kd.C_drew ?_))); (case side2 => exact HC0.out); rintro e w11 ⟨v233, rfl, ho0, hb⟩; refine ⟨_, rfl, ?_⟩; have n0_ := Aside0.mk (Kd.R_lower ho0 (below_size (by repeat (first | (with_reducible first | exact HB.out | apply below_alloc | apply pw_below_drewN | apply below_drew1) | exact HB.out)))); have n1_ := Aside0.mk (below_step (by repeat (first | (with_reducible first | exact HB.out | apply below_alloc | apply pw_below_drewN | apply below_drew1) | exact HB.out)) hb); clear HB; have HO234 := n0_; have HB := n1_; clear n0_ n1_; (try clear hb); (try clear hb2); (try clear hk); (try clear hi); (try clear ho0); obtain ⟨Ao12, co12, eo12⟩ := Kd.R_slice HO234.out; subst eo12) | ((with_reducible refine gate_callee (f := 27) rfl ?_); refine goesL_ (some 11) rfl rfl Try.func27 (by kernel_rfl) rfl #[.slice Ao12 t232.length co12] rfl (by (try simp only [List.map_toArray, List.map_cons, List.map_nil]); first | done | rfl | (simp only [List.length_drop, List.length_take]; rfl)) ?_; (with_reducible refine (impl_ByRatio.calls k _ _ t232 t235 _ ?side1 ?side2 A4.out).mono ?_); (case side1 => repeat (first | exact (Kd.R_reads' HO234.out).2.2 | (with_reducible refine Kd.C_alloc ?_ _) | (with_reducible refine Kd.C_drewN ?_ _) | (with_reducible refine Kd.C_drew ?_))); (case side2 => exact (Kd.R_reads' HO234.out).2.1); rintro e w13 ⟨v236, rfl, ho0, hb⟩; refine ⟨_, rfl, ?_⟩; have n0_ := Aside0.mk (Kd.R_below (by (with_reducible repeat (first | apply Kd.R_alloc | apply Kd.R_drewN | apply Kd.R_drew)); exact HO234.out) hb); have n1_ := Aside0.mk (Kd.R_lower ho0 (below_size (by repeat (first | (with_reducible first | exact HB.out | apply below_alloc | apply pw_below_drewN | apply below_drew1) | exact HB.out)))); have n2_ := Aside0.mk (below_step (by repeat (first | (with_reducible first | exact HB.out | apply below_alloc | apply pw_below_drewN | apply below_drew1) | exact HB.out)) hb); clear HO234; clear HB; have HO234 := n0_; have HO237 := n1_; have HB := n2_; clear n0_ n1_ n2_; (try clear hb); (try clear hb2); (try clear hk); (try clear hi); (try clear ho0)) | ((with_reducible refine gate_callee (f := 29) rfl ?_); refine goesL_ (some 14) rfl rfl Try.func29 (by kernel_rfl) rfl #[.slice Ao12 t232.length co12] rfl (by (try simp only [List.map_toArray, List.map_cons, List.map_nil]); first | done | rfl | (simp only [List.length_drop, List.length_take]; rfl)) ?_; (with_reducible refine (spec_ByRatio.calls k _ _ t232 t238 _ ?side1 ?side2 A5.out).mono ?_); (case side1 => repeat (first | exact (Kd.R_reads' HO234.out).2.2 | (with_reducible refine Kd.C_alloc ?_ _) | (with_reducible refine Kd.C_drewN ?_ _) | (with_reducible refine Kd.C_drew ?_))); (case side2 => exact (Kd.R_reads' HO234.out).2.1); rintro e w14 ⟨v239, rfl, ho0, hb⟩; refine ⟨_, rfl, ?_⟩; have n0_ := Aside0.mk (Kd.R_below (by (with_reducible repeat (first | apply Kd.R_alloc | apply Kd.R_drewN | apply Kd.R_drew)); exact HO234.out) hb); have n1_ := Aside0.mk (Kd.R_elder' (by (with_reducible repeat (first | apply Kd.R_alloc | apply Kd.R_drewN | apply Kd.R_drew)); exact HO237.out) (Kd.R_base ho0) hb); have n2_ := Aside0.mk (Kd.R_lower (Kd.R_new' ho0 (Kd.R_lt (by (with_reducible repeat (first | apply Kd.R_alloc | apply Kd.R_drewN | apply Kd.R_drew)); exact HO237.out))) (below_size (by repeat (first | (with_reducible first | exact HB.out | apply below_alloc | apply pw_below_drewN | apply below_drew1) | exact HB.out)))); have n3_ := Aside0.mk (below_step (by repeat (first | (with_reducible first | exact HB.out | apply below_alloc | apply pw_below_drewN | apply below_drew1) | exact HB.out)) hb); clear HO234; clear HO237; clear HB; have HO234 := n0_; have HO237 := n1_; have HO240 := n2_; have HB := n3_; clear n0_ n1_ n2_ n3_; (try clear hb); (try clear hb2); (try clear hk); (try clear hi); (try clear ho0); obtain ⟨Ao15, co15, eo15⟩ := Kd.R_slice HO237.out; subst eo15; obtain ⟨Ao16, co16, eo16⟩ := Kd.R_slice HO240.out; subst eo16) | ((with_reducible refine gate_callee (f := 28) rfl ?_); refine goesL_ (some 15) rfl rfl Try.func28 (by kernel_rfl) rfl #[.slice Ao15 t235.length co15, .slice Ao16 t238.length co16] rfl (by (try simp only [List.map_toArray, List.map_cons, List.map_nil]); first | done | rfl | (simp only [List.length_drop, List.length_take]; rfl)) ?_; (with_reducible refine (laws_sameInts.calls k _ _ t235 _ _ t238 true _ ?side1 ?side2 ?side3 ?side4 A6.out).mono ?_); (case side1 => repeat (first | exact (Kd.R_reads' HO237.out).2.2 | (with_reducible refine Kd.C_alloc ?_ _) | (with_reducible refine Kd.C_drewN ?_ _) | (with_reducible refine Kd.C_drew ?_))); (case side2 => exact (Kd.R_reads' HO237.out).2.1); (case side3 => repeat (first | exact (Kd.R_reads' HO240.out).2.2 | (with_reducible refine Kd.C_alloc ?_ _) | (with_reducible refine Kd.C_drewN ?_ _) | (with_reducible refine Kd.C_drew ?_))); (case side4 => exact (Kd.R_reads' HO240.out).2.1); rintro e w' ⟨rfl, ⟨nd, rfl⟩⟩; refine ⟨_, rfl, ?_⟩) | ((with_reducible refine gate_callee (f := 22) rfl ?_); refine goesL_ (some 21) rfl rfl Try.func22 (by kernel_rfl) rfl #[.slice Ao12 t232.length co12] rfl (by (try simp only [List.map_toArray, List.map_cons, List.map_nil]); first | done | rfl | (simp only [List.length_drop, List.length_take]; rfl)) ?_; (with_reducible refine (impl_TasksOk.calls k _ _ t232 true _ ?side1 ?side2 A9.out).mono ?_); (case side1 => repeat (first | exact (Kd.R_reads' HO234.out).2.2 | (with_reducible refine Kd.C_alloc ?_ _) | (with_reducible refine Kd.C_drewN ?_ _) | (with_reducible refine Kd.C_drew ?_))); (case side2 => exact (Kd.R_reads' HO234.out).2.1); rintro e w17 ⟨rfl, hb⟩; refine ⟨_, rfl, ?_⟩; have n0_ := Aside0.mk (Kd.R_below (by (with_reducible repeat (first | apply Kd.R_alloc | apply Kd.R_drewN | apply Kd.R_drew)); exact HO234.out) hb); have n1_ := Aside0.mk (Kd.R_below (by (with_reducible repeat (first | apply Kd.R_alloc | apply Kd.R_drewN | apply Kd.R_drew)); exact HO237.out) hb); have n2_ := Aside0.mk (Kd.R_below (by (with_reducible repeat (first | apply Kd.R_alloc | apply Kd.R_drewN | apply Kd.R_drew)); exact HO240.out) hb); have n3_ := Aside0.mk (below_step (by repeat (first | (with_reducible first | exact HB.out | apply below_alloc | apply pw_below_drewN | apply below_drew1) | exact HB.out)) hb); clear HO234; clear HO237; clear HO240; clear HB; have HO234 := n0_; have HO237 := n1_; have HO240 := n2_; have HB := n3_; clear n0_ n1_ n2_ n3_; (try clear hb); (try clear hb2); (try clear hk); (try clear hi)))
          go_ret
          exact ⟨by first | rfl | (simp [errW_none, errW_some] <;> rfl) | (simp [*, errW_none, errW_some] <;> rfl), by repeat (first | (with_reducible first | exact HB.out | apply below_alloc | apply pw_below_drewN | apply below_drew1) | exact HB.out)⟩
        · replace c10 := Bool.eq_false_iff.mpr c10
          subst c10
          have H1 : ((laws_alive.f k).bind fun t243 => (some t243)) = some r := by rw [if_neg (show ¬ (false = true) by decide)] at H; exact H
          clear H
          have H := H1
          clear H1
          replace H := Option.bind_eq_some_iff.mp H
          obtain ⟨t243, A180, H⟩ := H
          replace H : (some t243) = some r := H
          have A18 := Aside0.mk A180
          clear A180
          obtain rfl := Option.some.inj H
          go_enter Try.func6, Try.ntmps6
          go_wp2_with (first | ((with_reducible refine gate_callee (f := 26) rfl ?_); refine goesL_ (some 9) rfl rfl Try.func26 (by kernel_rfl) rfl #[.slice A0 l0.length c0] rfl (by (try simp only [List.map_toArray, List.map_cons, List.map_nil]); first | done | rfl | (simp only [List.length_drop, List.length_take]; rfl)) ?_; (with_reducible refine (spec_DrawByRatio.calls k _ _ l0 t232 _ ?side1 ?side2 A3.out).mono ?_); (case side1 => repeat (first | exact HR0.out | (with_reducible refine Kd.C_alloc ?_ _) | (with_reducible refine Kd.C_drewN ?_ _) | (with_reducible refine Kd.C_drew ?_))); (case side2 => exact HC0.out); rintro e w19 ⟨v233, rfl, ho0, hb⟩; refine ⟨_, rfl, ?_⟩; have n0_ := Aside0.mk (Kd.R_lower ho0 (below_size (by repeat (first | (with_reducible first | exact HB.out | apply below_alloc | apply pw_below_drewN | apply below_drew1) | exact HB.out)))); have n1_ := Aside0.mk (below_step (by repeat (first | (with_reducible first | exact HB.out | apply below_alloc | apply pw_below_drewN | apply below_drew1) | exact HB.out)) hb); clear HB; have HO234 := n0_; have HB := n1_; clear n0_ n1_; (try clear hb); (try clear hb2); (try clear hk); (try clear hi); (try clear ho0); obtain ⟨Ao20, co20, eo20⟩ := Kd.R_slice HO234.out; subst eo20) | ((with_reducible refine gate_callee (f := 27) rfl ?_); refine goesL_ (some 11) rfl rfl Try.func27 (by kernel_rfl) rfl #[.slice Ao20 t232.length co20] rfl (by (try simp only [List.map_toArray, List.map_cons, List.map_nil]); first | done | rfl | (simp only [List.length_drop, List.length_take]; rfl)) ?_; (with_reducible refine (impl_ByRatio.calls k _ _ t232 t235 _ ?side1 ?side2 A4.out).mono ?_); (case side1 => repeat (first | exact (Kd.R_reads' HO234.out).2.2 | (with_reducible refine Kd.C_alloc ?_ _) | (with_reducible refine Kd.C_drewN ?_ _) | (with_reducible refine Kd.C_drew ?_))); (case side2 => exact (Kd.R_reads' HO234.out).2.1); rintro e w21 ⟨v236, rfl, ho0, hb⟩; refine ⟨_, rfl, ?_⟩; have n0_ := Aside0.mk (Kd.R_below (by (with_reducible repeat (first | apply Kd.R_alloc | apply Kd.R_drewN | apply Kd.R_drew)); exact HO234.out) hb); have n1_ := Aside0.mk (Kd.R_lower ho0 (below_size (by repeat (first | (with_reducible first | exact HB.out | apply below_alloc | apply pw_below_drewN | apply below_drew1) | exact HB.out)))); have n2_ := Aside0.mk (below_step (by repeat (first | (with_reducible first | exact HB.out | apply below_alloc | apply pw_below_drewN | apply below_drew1) | exact HB.out)) hb); clear HO234; clear HB; have HO234 := n0_; have HO237 := n1_; have HB := n2_; clear n0_ n1_ n2_; (try clear hb); (try clear hb2); (try clear hk); (try clear hi); (try clear ho0)) | ((with_reducible refine gate_callee (f := 29) rfl ?_); refine goesL_ (some 14) rfl rfl Try.func29 (by kernel_rfl) rfl #[.slice Ao20 t232.length co20] rfl (by (try simp only [List.map_toArray, List.map_cons, List.map_nil]); first | done | rfl | (simp only [List.length_drop, List.length_take]; rfl)) ?_; (with_reducible refine (spec_ByRatio.calls k _ _ t232 t238 _ ?side1 ?side2 A5.out).mono ?_); (case side1 => repeat (first | exact (Kd.R_reads' HO234.out).2.2 | (with_reducible refine Kd.C_alloc ?_ _) | (with_reducible refine Kd.C_drewN ?_ _) | (with_reducible refine Kd.C_drew ?_))); (case side2 => exact (Kd.R_reads' HO234.out).2.1); rintro e w22 ⟨v239, rfl, ho0, hb⟩; refine ⟨_, rfl, ?_⟩; have n0_ := Aside0.mk (Kd.R_below (by (with_reducible repeat (first | apply Kd.R_alloc | apply Kd.R_drewN | apply Kd.R_drew)); exact HO234.out) hb); have n1_ := Aside0.mk (Kd.R_elder' (by (with_reducible repeat (first | apply Kd.R_alloc | apply Kd.R_drewN | apply Kd.R_drew)); exact HO237.out) (Kd.R_base ho0) hb); have n2_ := Aside0.mk (Kd.R_lower (Kd.R_new' ho0 (Kd.R_lt (by (with_reducible repeat (first | apply Kd.R_alloc | apply Kd.R_drewN | apply Kd.R_drew)); exact HO237.out))) (below_size (by repeat (first | (with_reducible first | exact HB.out | apply below_alloc | apply pw_below_drewN | apply below_drew1) | exact HB.out)))); have n3_ := Aside0.mk (below_step (by repeat (first | (with_reducible first | exact HB.out | apply below_alloc | apply pw_below_drewN | apply below_drew1) | exact HB.out)) hb); clear HO234; clear HO237; clear HB; have HO234 := n0_; have HO237 := n1_; have HO240 := n2_; have HB := n3_; clear n0_ n1_ n2_ n3_; (try clear hb); (try clear hb2); (try clear hk); (try clear hi); (try clear ho0); obtain ⟨Ao23, co23, eo23⟩ := Kd.R_slice HO237.out; subst eo23; obtain ⟨Ao24, co24, eo24⟩ := Kd.R_slice HO240.out; subst eo24) | ((with_reducible refine gate_callee (f := 28) rfl ?_); refine goesL_ (some 15) rfl rfl Try.func28 (by kernel_rfl) rfl #[.slice Ao23 t235.length co23, .slice Ao24 t238.length co24] rfl (by (try simp only [List.map_toArray, List.map_cons, List.map_nil]); first | done | rfl | (simp only [List.length_drop, List.length_take]; rfl)) ?_; (with_reducible refine (laws_sameInts.calls k _ _ t235 _ _ t238 true _ ?side1 ?side2 ?side3 ?side4 A6.out).mono ?_); (case side1 => repeat (first | exact (Kd.R_reads' HO237.out).2.2 | (with_reducible refine Kd.C_alloc ?_ _) | (with_reducible refine Kd.C_drewN ?_ _) | (with_reducible refine Kd.C_drew ?_))); (case side2 => exact (Kd.R_reads' HO237.out).2.1); (case side3 => repeat (first | exact (Kd.R_reads' HO240.out).2.2 | (with_reducible refine Kd.C_alloc ?_ _) | (with_reducible refine Kd.C_drewN ?_ _) | (with_reducible refine Kd.C_drew ?_))); (case side4 => exact (Kd.R_reads' HO240.out).2.1); rintro e w' ⟨rfl, ⟨nd, rfl⟩⟩; refine ⟨_, rfl, ?_⟩) | ((with_reducible refine gate_callee (f := 22) rfl ?_); refine goesL_ (some 21) rfl rfl Try.func22 (by kernel_rfl) rfl #[.slice Ao20 t232.length co20] rfl (by (try simp only [List.map_toArray, List.map_cons, List.map_nil]); first | done | rfl | (simp only [List.length_drop, List.length_take]; rfl)) ?_; (with_reducible refine (impl_TasksOk.calls k _ _ t232 false _ ?side1 ?side2 A9.out).mono ?_); (case side1 => repeat (first | exact (Kd.R_reads' HO234.out).2.2 | (with_reducible refine Kd.C_alloc ?_ _) | (with_reducible refine Kd.C_drewN ?_ _) | (with_reducible refine Kd.C_drew ?_))); (case side2 => exact (Kd.R_reads' HO234.out).2.1); rintro e w25 ⟨rfl, hb⟩; refine ⟨_, rfl, ?_⟩; have n0_ := Aside0.mk (Kd.R_below (by (with_reducible repeat (first | apply Kd.R_alloc | apply Kd.R_drewN | apply Kd.R_drew)); exact HO234.out) hb); have n1_ := Aside0.mk (Kd.R_below (by (with_reducible repeat (first | apply Kd.R_alloc | apply Kd.R_drewN | apply Kd.R_drew)); exact HO237.out) hb); have n2_ := Aside0.mk (Kd.R_below (by (with_reducible repeat (first | apply Kd.R_alloc | apply Kd.R_drewN | apply Kd.R_drew)); exact HO240.out) hb); have n3_ := Aside0.mk (below_step (by repeat (first | (with_reducible first | exact HB.out | apply below_alloc | apply pw_below_drewN | apply below_drew1) | exact HB.out)) hb); clear HO234; clear HO237; clear HO240; clear HB; have HO234 := n0_; have HO237 := n1_; have HO240 := n2_; have HB := n3_; clear n0_ n1_ n2_ n3_; (try clear hb); (try clear hb2); (try clear hk); (try clear hi)) | (go_at_call 25; (with_reducible refine (laws_alive.calls k  t243 _ A18.out).mono ?_); rintro e w26 ⟨rfl, hb⟩; have n0_ := Aside0.mk (Kd.R_below (by (with_reducible repeat (first | apply Kd.R_alloc | apply Kd.R_drewN | apply Kd.R_drew)); exact HO234.out) hb); have n1_ := Aside0.mk (Kd.R_below (by (with_reducible repeat (first | apply Kd.R_alloc | apply Kd.R_drewN | apply Kd.R_drew)); exact HO237.out) hb); have n2_ := Aside0.mk (Kd.R_below (by (with_reducible repeat (first | apply Kd.R_alloc | apply Kd.R_drewN | apply Kd.R_drew)); exact HO240.out) hb); have n3_ := Aside0.mk (below_step (by repeat (first | (with_reducible first | exact HB.out | apply below_alloc | apply pw_below_drewN | apply below_drew1) | exact HB.out)) hb); clear HO234; clear HO237; clear HO240; clear HB; have HO234 := n0_; have HO237 := n1_; have HO240 := n2_; have HB := n3_; clear n0_ n1_ n2_ n3_; (try clear hb); (try clear hb2); (try clear hk); (try clear hi)))
          go_ret
          exact ⟨by first | rfl | (simp [errW_none, errW_some] <;> rfl) | (simp [*, errW_none, errW_some] <;> rfl), by repeat (first | (with_reducible first | exact HB.out | apply below_alloc | apply pw_below_drewN | apply below_drew1) | exact HB.out)⟩
      · rw [if_neg c8] at H
        have c8b0 : ((t235.length : Int) == 0) = false := beq_eq_false_iff_ne.mpr c8
        have c8b1 : ((t235.length : Int) != 0) = true := bne_iff_ne.mpr c8
        have c8b2 : ¬ (t235 = []) := fun h_ => c8 (by rw [h_]; rfl)
        replace H := Option.bind_eq_some_iff.mp H
        obtain ⟨t244, A270, H⟩ := H
        replace H : (if t244 = true then ((impl_WeightedSum.f k t232 t235).bind fun t245 => ((impl_LeastWeighted.f k t232).bind fun t246 => (some (t245 == t246)))) else (some false)) = some r := H
        have A27 := Aside0.mk A270
        clear A270
        by_cases c28 : t244 = true
        · subst c28
          have H1 : ((impl_WeightedSum.f k t232 t235).bind fun t245 => ((impl_LeastWeighted.f k t232).bind fun t246 => (some (t245 == t246)))) = some r := by rw [if_pos rfl] at H; exact H
          clear H
          have H := H1
          clear H1
          replace H := Option.bind_eq_some_iff.mp H
          obtain ⟨t245, A290, H⟩ := H
          replace H : ((impl_LeastWeighted.f k t232).bind fun t246 => (some (t245 == t246))) = some r := H
          have A29 := Aside0.mk A290
          clear A290
          replace H := Option.bind_eq_some_iff.mp H
          obtain ⟨t246, A300, H⟩ := H
          replace H : (some (t245 == t246)) = some r := H
          have A30 := Aside0.mk A300
          clear A300
          obtain rfl := Option.some.inj H
          go_enter Try.func6, Try.ntmps6
          go_wp2_with (first | ((with_reducible refine gate_callee (f := 26) rfl ?_); refine goesL_ (some 9) rfl rfl Try.func26 (by kernel_rfl) rfl #[.slice A0 l0.length c0] rfl (by (try simp only [List.map_toArray, List.map_cons, List.map_nil]); first | done | rfl | (simp only [List.length_drop, List.length_take]; rfl)) ?_; (with_reducible refine (spec_DrawByRatio.calls k _ _ l0 t232 _ ?side1 ?side2 A3.out).mono ?_); (case side1 => repeat (first | exact HR0.out | (with_reducible refine Kd.C_alloc ?_ _) | (with_reducible refine Kd.C_drewN ?_ _) | (with_reducible refine Kd.C_drew ?_))); (case side2 => exact HC0.out); rintro e w31 ⟨v233, rfl, ho0, hb⟩; refine ⟨_, rfl, ?_⟩; have n0_ := Aside0.mk (Kd.R_lower ho0 (below_size (by repeat (first | (with_reducible first | exact HB.out | apply below_alloc | apply pw_below_drewN | apply below_drew1) | exact HB.out)))); have n1_ := Aside0.mk (below_step (by repeat (first | (with_reducible first | exact HB.out | apply below_alloc | apply pw_below_drewN | apply below_drew1) | exact HB.out)) hb); clear HB; have HO234 := n0_; have HB := n1_; clear n0_ n1_; (try clear hb); (try clear hb2); (try clear hk); (try clear hi); (try clear ho0); obtain ⟨Ao32, co32, eo32⟩ := Kd.R_slice HO234.out; subst eo32) | ((with_reducible refine gate_callee (f := 27) rfl ?_); refine goesL_ (some 11) rfl rfl Try.func27 (by kernel_rfl) rfl #[.slice Ao32 t232.length co32] rfl (by (try simp only [List.map_toArray, List.map_cons, List.map_nil]); first | done | rfl | (simp only [List.length_drop, List.length_take]; rfl)) ?_; (with_reducible refine (impl_ByRatio.calls k _ _ t232 t235 _ ?side1 ?side2 A4.out).mono ?_); (case side1 => repeat (first | exact (Kd.R_reads' HO234.out).2.2 | (with_reducible refine Kd.C_alloc ?_ _) | (with_reducible refine Kd.C_drewN ?_ _) | (with_reducible refine Kd.C_drew ?_))); (case side2 => exact (Kd.R_reads' HO234.out).2.1); rintro e w33 ⟨v236, rfl, ho0, hb⟩; refine ⟨_, rfl, ?_⟩; have n0_ := Aside0.mk (Kd.R_below (by (with_reducible repeat (first | apply Kd.R_alloc | apply Kd.R_drewN | apply Kd.R_drew)); exact HO234.out) hb); have n1_ := Aside0.mk (Kd.R_lower ho0 (below_size (by repeat (first | (with_reducible first | exact HB.out | apply below_alloc | apply pw_below_drewN | apply below_drew1) | exact HB.out)))); have n2_ := Aside0.mk (below_step (by repeat (first | (with_reducible first | exact HB.out | apply below_alloc | apply pw_below_drewN | apply below_drew1) | exact HB.out)) hb); clear HO234; clear HB; have HO234 := n0_; have HO237 := n1_; have HB := n2_; clear n0_ n1_ n2_; (try clear hb); (try clear hb2); (try clear hk); (try clear hi); (try clear ho0)) | ((with_reducible refine gate_callee (f := 29) rfl ?_); refine goesL_ (some 14) rfl rfl Try.func29 (by kernel_rfl) rfl #[.slice Ao32 t232.length co32] rfl (by (try simp only [List.map_toArray, List.map_cons, List.map_nil]); first | done | rfl | (simp only [List.length_drop, List.length_take]; rfl)) ?_; (with_reducible refine (spec_ByRatio.calls k _ _ t232 t238 _ ?side1 ?side2 A5.out).mono ?_); (case side1 => repeat (first | exact (Kd.R_reads' HO234.out).2.2 | (with_reducible refine Kd.C_alloc ?_ _) | (with_reducible refine Kd.C_drewN ?_ _) | (with_reducible refine Kd.C_drew ?_))); (case side2 => exact (Kd.R_reads' HO234.out).2.1); rintro e w34 ⟨v239, rfl, ho0, hb⟩; refine ⟨_, rfl, ?_⟩; have n0_ := Aside0.mk (Kd.R_below (by (with_reducible repeat (first | apply Kd.R_alloc | apply Kd.R_drewN | apply Kd.R_drew)); exact HO234.out) hb); have n1_ := Aside0.mk (Kd.R_elder' (by (with_reducible repeat (first | apply Kd.R_alloc | apply Kd.R_drewN | apply Kd.R_drew)); exact HO237.out) (Kd.R_base ho0) hb); have n2_ := Aside0.mk (Kd.R_lower (Kd.R_new' ho0 (Kd.R_lt (by (with_reducible repeat (first | apply Kd.R_alloc | apply Kd.R_drewN | apply Kd.R_drew)); exact HO237.out))) (below_size (by repeat (first | (with_reducible first | exact HB.out | apply below_alloc | apply pw_below_drewN | apply below_drew1) | exact HB.out)))); have n3_ := Aside0.mk (below_step (by repeat (first | (with_reducible first | exact HB.out | apply below_alloc | apply pw_below_drewN | apply below_drew1) | exact HB.out)) hb); clear HO234; clear HO237; clear HB; have HO234 := n0_; have HO237 := n1_; have HO240 := n2_; have HB := n3_; clear n0_ n1_ n2_ n3_; (try clear hb); (try clear hb2); (try clear hk); (try clear hi); (try clear ho0); obtain ⟨Ao35, co35, eo35⟩ := Kd.R_slice HO237.out; subst eo35; obtain ⟨Ao36, co36, eo36⟩ := Kd.R_slice HO240.out; subst eo36) | ((with_reducible refine gate_callee (f := 28) rfl ?_); refine goesL_ (some 15) rfl rfl Try.func28 (by kernel_rfl) rfl #[.slice Ao35 t235.length co35, .slice Ao36 t238.length co36] rfl (by (try simp only [List.map_toArray, List.map_cons, List.map_nil]); first | done | rfl | (simp only [List.length_drop, List.length_take]; rfl)) ?_; (with_reducible refine (laws_sameInts.calls k _ _ t235 _ _ t238 true _ ?side1 ?side2 ?side3 ?side4 A6.out).mono ?_); (case side1 => repeat (first | exact (Kd.R_reads' HO237.out).2.2 | (with_reducible refine Kd.C_alloc ?_ _) | (with_reducible refine Kd.C_drewN ?_ _) | (with_reducible refine Kd.C_drew ?_))); (case side2 => exact (Kd.R_reads' HO237.out).2.1); (case side3 => repeat (first | exact (Kd.R_reads' HO240.out).2.2 | (with_reducible refine Kd.C_alloc ?_ _) | (with_reducible refine Kd.C_drewN ?_ _) | (with_reducible refine Kd.C_drew ?_))); (case side4 => exact (Kd.R_reads' HO240.out).2.1); rintro e w' ⟨rfl, ⟨nd, rfl⟩⟩; refine ⟨_, rfl, ?_⟩) | ((with_reducible refine gate_callee (f := 17) rfl ?_); refine goesL_ (some 29) rfl rfl Try.func17 (by kernel_rfl) rfl #[.slice Ao35 t235.length co35, .int .i64 (t232.length : Int)] rfl (by (try simp only [List.map_toArray, List.map_cons, List.map_nil]); first | done | rfl | (simp only [List.length_drop, List.length_take]; rfl)) ?_; (with_reducible refine (impl_EachOnce.calls k _ _ t235 (t232.length : Int) true _ ?side1 ?side2 A27.out).mono ?_); (case side1 => repeat (first | exact (Kd.R_reads' HO237.out).2.2 | (with_reducible refine Kd.C_alloc ?_ _) | (with_reducible refine Kd.C_drewN ?_ _) | (with_reducible refine Kd.C_drew ?_))); (case side2 => exact (Kd.R_reads' HO237.out).2.1); rintro e w' ⟨rfl, ⟨nd, rfl⟩⟩; refine ⟨_, rfl, ?_⟩) | (go_at_call 30; (with_reducible refine (impl_WeightedSum.calls k _ _ t232 _ _ t235 t245 _ ?side1 ?side2 ?side3 ?side4 A29.out).mono ?_); (case side1 => repeat (first | exact (Kd.R_reads' HO234.out).2.2 | (with_reducible refine Kd.C_alloc ?_ _) | (with_reducible refine Kd.C_drewN ?_ _) | (with_reducible refine Kd.C_drew ?_))); (case side2 => exact (Kd.R_reads' HO234.out).2.1); (case side3 => repeat (first | exact (Kd.R_reads' HO237.out).2.2 | (with_reducible refine Kd.C_alloc ?_ _) | (with_reducible refine Kd.C_drewN ?_ _) | (with_reducible refine Kd.C_drew ?_))); (case side4 => exact (Kd.R_reads' HO237.out).2.1); rintro e w37 ⟨rfl, hb⟩; have n0_ := Aside0.mk (Kd.R_below (by (with_reducible repeat (first | apply Kd.R_alloc | apply Kd.R_drewN | apply Kd.R_drew)); exact HO234.out) hb); have n1_ := Aside0.mk (Kd.R_below (by (with_reducible repeat (first | apply Kd.R_alloc | apply Kd.R_drewN | apply Kd.R_drew)); exact HO237.out) hb); have n2_ := Aside0.mk (Kd.R_below (by (with_reducible repeat (first | apply Kd.R_alloc | apply Kd.R_drewN | apply Kd.R_drew)); exact HO240.out) hb); have n3_ := Aside0.mk (below_step (by repeat (first | (with_reducible first | exact HB.out | apply below_alloc | apply pw_below_drewN | apply below_drew1) | exact HB.out)) hb); clear HO234; clear HO237; clear HO240; clear HB; have HO234 := n0_; have HO237 := n1_; have HO240 := n2_; have HB := n3_; clear n0_ n1_ n2_ n3_; (try clear hb); (try clear hb2); (try clear hk); (try clear hi)) | (go_at_call 31; (with_reducible refine (impl_LeastWeighted.calls k _ _ t232 t246 _ ?side1 ?side2 A30.out).mono ?_); (case side1 => repeat (first | exact (Kd.R_reads' HO234.out).2.2 | (with_reducible refine Kd.C_alloc ?_ _) | (with_reducible refine Kd.C_drewN ?_ _) | (with_reducible refine Kd.C_drew ?_))); (case side2 => exact (Kd.R_reads' HO234.out).2.1); rintro e w38 ⟨rfl, hb⟩; have n0_ := Aside0.mk (Kd.R_below (by (with_reducible repeat (first | apply Kd.R_alloc | apply Kd.R_drewN | apply Kd.R_drew)); exact HO234.out) hb); have n1_ := Aside0.mk (Kd.R_below (by (with_reducible repeat (first | apply Kd.R_alloc | apply Kd.R_drewN | apply Kd.R_drew)); exact HO237.out) hb); have n2_ := Aside0.mk (Kd.R_below (by (with_reducible repeat (first | apply Kd.R_alloc | apply Kd.R_drewN | apply Kd.R_drew)); exact HO240.out) hb); have n3_ := Aside0.mk (below_step (by repeat (first | (with_reducible first | exact HB.out | apply below_alloc | apply pw_below_drewN | apply below_drew1) | exact HB.out)) hb); clear HO234; clear HO237; clear HO240; clear HB; have HO234 := n0_; have HO237 := n1_; have HO240 := n2_; have HB := n3_; clear n0_ n1_ n2_ n3_; (try clear hb); (try clear hb2); (try clear hk); (try clear hi)))
          go_ret
          exact ⟨by first | rfl | (simp [errW_none, errW_some] <;> rfl) | (simp [*, errW_none, errW_some] <;> rfl), by repeat (first | (with_reducible first | exact HB.out | apply below_alloc | apply pw_below_drewN | apply below_drew1) | exact HB.out)⟩
        · replace c28 := Bool.eq_false_iff.mpr c28
          subst c28
          have H1 : (some false) = some r := by rw [if_neg (show ¬ (false = true) by decide)] at H; exact H
          clear H
          have H := H1
          clear H1
          obtain rfl := Option.some.inj H
          go_enter Try.func6, Try.ntmps6
          go_wp2_with (first | ((with_reducible refine gate_callee (f := 26) rfl ?_); refine goesL_ (some 9) rfl rfl Try.func26 (by kernel_rfl) rfl #[.slice A0 l0.length c0] rfl (by (try simp only [List.map_toArray, List.map_cons, List.map_nil]); first | done | rfl | (simp only [List.length_drop, List.length_take]; rfl)) ?_; (with_reducible refine (spec_DrawByRatio.calls k _ _ l0 t232 _ ?side1 ?side2 A3.out).mono ?_); (case side1 => repeat (first | exact HR0.out | (with_reducible refine Kd.C_alloc ?_ _) | (with_reducible refine Kd.C_drewN ?_ _) | (with_reducible refine Kd.C_drew ?_))); (case side2 => exact HC0.out); rintro e w39 ⟨v233, rfl, ho0, hb⟩; refine ⟨_, rfl, ?_⟩; have n0_ := Aside0.mk (Kd.R_lower ho0 (below_size (by repeat (first | (with_reducible first | exact HB.out | apply below_alloc | apply pw_below_drewN | apply below_drew1) | exact HB.out)))); have n1_ := Aside0.mk (below_step (by repeat (first | (with_reducible first | exact HB.out | apply below_alloc | apply pw_below_drewN | apply below_drew1) | exact HB.out)) hb); clear HB; have HO234 := n0_; have HB := n1_; clear n0_ n1_; (try clear hb); (try clear hb2); (try clear hk); (try clear hi); (try clear ho0); obtain ⟨Ao40, co40, eo40⟩ := Kd.R_slice HO234.out; subst eo40) | ((with_reducible refine gate_callee (f := 27) rfl ?_); refine goesL_ (some 11) rfl rfl Try.func27 (by kernel_rfl) rfl #[.slice Ao40 t232.length co40] rfl (by (try simp only [List.map_toArray, List.map_cons, List.map_nil]); first | done | rfl | (simp only [List.length_drop, List.length_take]; rfl)) ?_; (with_reducible refine (impl_ByRatio.calls k _ _ t232 t235 _ ?side1 ?side2 A4.out).mono ?_); (case side1 => repeat (first | exact (Kd.R_reads' HO234.out).2.2 | (with_reducible refine Kd.C_alloc ?_ _) | (with_reducible refine Kd.C_drewN ?_ _) | (with_reducible refine Kd.C_drew ?_))); (case side2 => exact (Kd.R_reads' HO234.out).2.1); rintro e w41 ⟨v236, rfl, ho0, hb⟩; refine ⟨_, rfl, ?_⟩; have n0_ := Aside0.mk (Kd.R_below (by (with_reducible repeat (first | apply Kd.R_alloc | apply Kd.R_drewN | apply Kd.R_drew)); exact HO234.out) hb); have n1_ := Aside0.mk (Kd.R_lower ho0 (below_size (by repeat (first | (with_reducible first | exact HB.out | apply below_alloc | apply pw_below_drewN | apply below_drew1) | exact HB.out)))); have n2_ := Aside0.mk (below_step (by repeat (first | (with_reducible first | exact HB.out | apply below_alloc | apply pw_below_drewN | apply below_drew1) | exact HB.out)) hb); clear HO234; clear HB; have HO234 := n0_; have HO237 := n1_; have HB := n2_; clear n0_ n1_ n2_; (try clear hb); (try clear hb2); (try clear hk); (try clear hi); (try clear ho0)) | ((with_reducible refine gate_callee (f := 29) rfl ?_); refine goesL_ (some 14) rfl rfl Try.func29 (by kernel_rfl) rfl #[.slice Ao40 t232.length co40] rfl (by (try simp only [List.map_toArray, List.map_cons, List.map_nil]); first | done | rfl | (simp only [List.length_drop, List.length_take]; rfl)) ?_; (with_reducible refine (spec_ByRatio.calls k _ _ t232 t238 _ ?side1 ?side2 A5.out).mono ?_); (case side1 => repeat (first | exact (Kd.R_reads' HO234.out).2.2 | (with_reducible refine Kd.C_alloc ?_ _) | (with_reducible refine Kd.C_drewN ?_ _) | (with_reducible refine Kd.C_drew ?_))); (case side2 => exact (Kd.R_reads' HO234.out).2.1); rintro e w42 ⟨v239, rfl, ho0, hb⟩; refine ⟨_, rfl, ?_⟩; have n0_ := Aside0.mk (Kd.R_below (by (with_reducible repeat (first | apply Kd.R_alloc | apply Kd.R_drewN | apply Kd.R_drew)); exact HO234.out) hb); have n1_ := Aside0.mk (Kd.R_elder' (by (with_reducible repeat (first | apply Kd.R_alloc | apply Kd.R_drewN | apply Kd.R_drew)); exact HO237.out) (Kd.R_base ho0) hb); have n2_ := Aside0.mk (Kd.R_lower (Kd.R_new' ho0 (Kd.R_lt (by (with_reducible repeat (first | apply Kd.R_alloc | apply Kd.R_drewN | apply Kd.R_drew)); exact HO237.out))) (below_size (by repeat (first | (with_reducible first | exact HB.out | apply below_alloc | apply pw_below_drewN | apply below_drew1) | exact HB.out)))); have n3_ := Aside0.mk (below_step (by repeat (first | (with_reducible first | exact HB.out | apply below_alloc | apply pw_below_drewN | apply below_drew1) | exact HB.out)) hb); clear HO234; clear HO237; clear HB; have HO234 := n0_; have HO237 := n1_; have HO240 := n2_; have HB := n3_; clear n0_ n1_ n2_ n3_; (try clear hb); (try clear hb2); (try clear hk); (try clear hi); (try clear ho0); obtain ⟨Ao43, co43, eo43⟩ := Kd.R_slice HO237.out; subst eo43; obtain ⟨Ao44, co44, eo44⟩ := Kd.R_slice HO240.out; subst eo44) | ((with_reducible refine gate_callee (f := 28) rfl ?_); refine goesL_ (some 15) rfl rfl Try.func28 (by kernel_rfl) rfl #[.slice Ao43 t235.length co43, .slice Ao44 t238.length co44] rfl (by (try simp only [List.map_toArray, List.map_cons, List.map_nil]); first | done | rfl | (simp only [List.length_drop, List.length_take]; rfl)) ?_; (with_reducible refine (laws_sameInts.calls k _ _ t235 _ _ t238 true _ ?side1 ?side2 ?side3 ?side4 A6.out).mono ?_); (case side1 => repeat (first | exact (Kd.R_reads' HO237.out).2.2 | (with_reducible refine Kd.C_alloc ?_ _) | (with_reducible refine Kd.C_drewN ?_ _) | (with_reducible refine Kd.C_drew ?_))); (case side2 => exact (Kd.R_reads' HO237.out).2.1); (case side3 => repeat (first | exact (Kd.R_reads' HO240.out).2.2 | (with_reducible refine Kd.C_alloc ?_ _) | (with_reducible refine Kd.C_drewN ?_ _) | (with_reducible refine Kd.C_drew ?_))); (case side4 => exact (Kd.R_reads' HO240.out).2.1); rintro e w' ⟨rfl, ⟨nd, rfl⟩⟩; refine ⟨_, rfl, ?_⟩) | ((with_reducible refine gate_callee (f := 17) rfl ?_); refine goesL_ (some 29) rfl rfl Try.func17 (by kernel_rfl) rfl #[.slice Ao43 t235.length co43, .int .i64 (t232.length : Int)] rfl (by (try simp only [List.map_toArray, List.map_cons, List.map_nil]); first | done | rfl | (simp only [List.length_drop, List.length_take]; rfl)) ?_; (with_reducible refine (impl_EachOnce.calls k _ _ t235 (t232.length : Int) false _ ?side1 ?side2 A27.out).mono ?_); (case side1 => repeat (first | exact (Kd.R_reads' HO237.out).2.2 | (with_reducible refine Kd.C_alloc ?_ _) | (with_reducible refine Kd.C_drewN ?_ _) | (with_reducible refine Kd.C_drew ?_))); (case side2 => exact (Kd.R_reads' HO237.out).2.1); rintro e w' ⟨rfl, ⟨nd, rfl⟩⟩; refine ⟨_, rfl, ?_⟩))
          go_ret
          exact ⟨by first | rfl | (simp [errW_none, errW_some] <;> rfl) | (simp [*, errW_none, errW_some] <;> rfl), by repeat (first | (with_reducible first | exact HB.out | apply below_alloc | apply pw_below_drewN | apply below_drew1) | exact HB.out)⟩
    · replace c7 := Bool.eq_false_iff.mpr c7
      subst c7
      have H1 : (some false) = some r := by rw [if_neg (show ¬ (false = true) by decide)] at H; exact H
      clear H
      have H := H1
      clear H1
      obtain rfl := Option.some.inj H
      go_enter Try.func6, Try.ntmps6
      go_wp2_with (first | ((with_reducible refine gate_callee (f := 26) rfl ?_); refine goesL_ (some 9) rfl rfl Try.func26 (by kernel_rfl) rfl #[.slice A0 l0.length c0] rfl (by (try simp only [List.map_toArray, List.map_cons, List.map_nil]); first | done | rfl | (simp only [List.length_drop, List.length_take]; rfl)) ?_; (with_reducible refine (spec_DrawByRatio.calls k _ _ l0 t232 _ ?side1 ?side2 A3.out).mono ?_); (case side1 => repeat (first | exact HR0.out | (with_reducible refine Kd.C_alloc ?_ _) | (with_reducible refine Kd.C_drewN ?_ _) | (with_reducible refine Kd.C_drew ?_))); (case side2 => exact HC0.out); rintro e w45 ⟨v233, rfl, ho0, hb⟩; refine ⟨_, rfl, ?_⟩; have n0_ := Aside0.mk (Kd.R_lower ho0 (below_size (by repeat (first | (with_reducible first | exact HB.out | apply below_alloc | apply pw_below_drewN | apply below_drew1) | exact HB.out)))); have n1_ := Aside0.mk (below_step (by repeat (first | (with_reducible first | exact HB.out | apply below_alloc | apply pw_below_drewN | apply below_drew1) | exact HB.out)) hb); clear HB; have HO234 := n0_; have HB := n1_; clear n0_ n1_; (try clear hb); (try clear hb2); (try clear hk); (try clear hi); (try clear ho0); obtain ⟨Ao46, co46, eo46⟩ := Kd.R_slice HO234.out; subst eo46) | ((with_reducible refine gate_callee (f := 27) rfl ?_); refine goesL_ (some 11) rfl rfl Try.func27 (by kernel_rfl) rfl #[.slice Ao46 t232.length co46] rfl (by (try simp only [List.map_toArray, List.map_cons, List.map_nil]); first | done | rfl | (simp only [List.length_drop, List.length_take]; rfl)) ?_; (with_reducible refine (impl_ByRatio.calls k _ _ t232 t235 _ ?side1 ?side2 A4.out).mono ?_); (case side1 => repeat (first | exact (Kd.R_reads' HO234.out).2.2 | (with_reducible refine Kd.C_alloc ?_ _) | (with_reducible refine Kd.C_drewN ?_ _) | (with_reducible refine Kd.C_drew ?_))); (case side2 => exact (Kd.R_reads' HO234.out).2.1); rintro e w47 ⟨v236, rfl, ho0, hb⟩; refine ⟨_, rfl, ?_⟩; have n0_ := Aside0.mk (Kd.R_below (by (with_reducible repeat (first | apply Kd.R_alloc | apply Kd.R_drewN | apply Kd.R_drew)); exact HO234.out) hb); have n1_ := Aside0.mk (Kd.R_lower ho0 (below_size (by repeat (first | (with_reducible first | exact HB.out | apply below_alloc | apply pw_below_drewN | apply below_drew1) | exact HB.out)))); have n2_ := Aside0.mk (below_step (by repeat (first | (with_reducible first | exact HB.out | apply below_alloc | apply pw_below_drewN | apply below_drew1) | exact HB.out)) hb); clear HO234; clear HB; have HO234 := n0_; have HO237 := n1_; have HB := n2_; clear n0_ n1_ n2_; (try clear hb); (try clear hb2); (try clear hk); (try clear hi); (try clear ho0)) | ((with_reducible refine gate_callee (f := 29) rfl ?_); refine goesL_ (some 14) rfl rfl Try.func29 (by kernel_rfl) rfl #[.slice Ao46 t232.length co46] rfl (by (try simp only [List.map_toArray, List.map_cons, List.map_nil]); first | done | rfl | (simp only [List.length_drop, List.length_take]; rfl)) ?_; (with_reducible refine (spec_ByRatio.calls k _ _ t232 t238 _ ?side1 ?side2 A5.out).mono ?_); (case side1 => repeat (first | exact (Kd.R_reads' HO234.out).2.2 | (with_reducible refine Kd.C_alloc ?_ _) | (with_reducible refine Kd.C_drewN ?_ _) | (with_reducible refine Kd.C_drew ?_))); (case side2 => exact (Kd.R_reads' HO234.out).2.1); rintro e w48 ⟨v239, rfl, ho0, hb⟩; refine ⟨_, rfl, ?_⟩; have n0_ := Aside0.mk (Kd.R_below (by (with_reducible repeat (first | apply Kd.R_alloc | apply Kd.R_drewN | apply Kd.R_drew)); exact HO234.out) hb); have n1_ := Aside0.mk (Kd.R_elder' (by (with_reducible repeat (first | apply Kd.R_alloc | apply Kd.R_drewN | apply Kd.R_drew)); exact HO237.out) (Kd.R_base ho0) hb); have n2_ := Aside0.mk (Kd.R_lower (Kd.R_new' ho0 (Kd.R_lt (by (with_reducible repeat (first | apply Kd.R_alloc | apply Kd.R_drewN | apply Kd.R_drew)); exact HO237.out))) (below_size (by repeat (first | (with_reducible first | exact HB.out | apply below_alloc | apply pw_below_drewN | apply below_drew1) | exact HB.out)))); have n3_ := Aside0.mk (below_step (by repeat (first | (with_reducible first | exact HB.out | apply below_alloc | apply pw_below_drewN | apply below_drew1) | exact HB.out)) hb); clear HO234; clear HO237; clear HB; have HO234 := n0_; have HO237 := n1_; have HO240 := n2_; have HB := n3_; clear n0_ n1_ n2_ n3_; (try clear hb); (try clear hb2); (try clear hk); (try clear hi); (try clear ho0); obtain ⟨Ao49, co49, eo49⟩ := Kd.R_slice HO237.out; subst eo49; obtain ⟨Ao50, co50, eo50⟩ := Kd.R_slice HO240.out; subst eo50) | ((with_reducible refine gate_callee (f := 28) rfl ?_); refine goesL_ (some 15) rfl rfl Try.func28 (by kernel_rfl) rfl #[.slice Ao49 t235.length co49, .slice Ao50 t238.length co50] rfl (by (try simp only [List.map_toArray, List.map_cons, List.map_nil]); first | done | rfl | (simp only [List.length_drop, List.length_take]; rfl)) ?_; (with_reducible refine (laws_sameInts.calls k _ _ t235 _ _ t238 false _ ?side1 ?side2 ?side3 ?side4 A6.out).mono ?_); (case side1 => repeat (first | exact (Kd.R_reads' HO237.out).2.2 | (with_reducible refine Kd.C_alloc ?_ _) | (with_reducible refine Kd.C_drewN ?_ _) | (with_reducible refine Kd.C_drew ?_))); (case side2 => exact (Kd.R_reads' HO237.out).2.1); (case side3 => repeat (first | exact (Kd.R_reads' HO240.out).2.2 | (with_reducible refine Kd.C_alloc ?_ _) | (with_reducible refine Kd.C_drewN ?_ _) | (with_reducible refine Kd.C_drew ?_))); (case side4 => exact (Kd.R_reads' HO240.out).2.1); rintro e w' ⟨rfl, ⟨nd, rfl⟩⟩; refine ⟨_, rfl, ?_⟩))
      go_ret
      exact ⟨by first | rfl | (simp [errW_none, errW_some] <;> rfl) | (simp [*, errW_none, errW_some] <;> rfl), by repeat (first | (with_reducible first | exact HB.out | apply below_alloc | apply pw_below_drewN | apply below_drew1) | exact HB.out)⟩

/-- THE ONE PURE STATEMENT of laws_FnByRatio: yours. -/
def laws_FnByRatio.Pure : Prop := ∀ (l0 : List Int), l0.length ≤ maxLen → l0.length * 1 ≤ 140737488351232 → (∀ x ∈ l0, (Lit.int .u8 x).wf = true) → ∃ k, laws_FnByRatio.f k l0 = some true
theorem laws_FnByRatio.walk (P : laws_FnByRatio.Pure) (a0 : Option Addr) (len0 cap0 : Nat) (z0 : List Int) (w : World) (w0 : (a0 = none ∧ len0 = 0 ∧ cap0 = 0 ∧ z0 = []) ∨ ∃ x, a0 = some x ∧ len0 ≤ cap0 ∧ cap0 ≤ maxLen ∧ z0.length = cap0 ∧ (∀ i, i < z0.length → w.cell? (x.add i) = some (.int .u8 (z0.getD i 0))) ∧ ∀ n ∈ z0, (Lit.int .u8 n).wf = true) (y0 : len0 * 1 ≤ 140737488351232) :
    Calls Try.prog 6 #[.slice a0 len0 cap0] w fun e w' => e = .returned (.bool true) ∧ Below w.heap.size w w' := by
  obtain ⟨l0, rfl, hr0, hm0, hw0, hc0⟩ := ReadsInt.ofRowC w0
  obtain ⟨k, h⟩ := P l0 hm0 y0 hw0
  refine (laws_FnByRatio.calls k _ _ l0 true w (Kd.C_of_reads (d := (0 : Int)) (h1 := fun _ => rfl) hr0) hc0 h).mono ?_
  rintro e w' ⟨rfl, hd⟩
  exact ⟨rfl, hd⟩

end Go.Proofs.Ytclodndgieefcaa.PFnByRatio
