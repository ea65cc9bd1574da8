-- PRINTED by printx.py (a program of this session) with the kit's print.py out of the translation. Not trusted: Lean checks it.
import Derived.Test.YtecpajjpeeaeaaaPOrdx0
import Derived.Test.YtecpajjpeeaeaaaPOrdx4
import Derived.Test.YtecpajjpeeaeaaaPOrdx7
namespace Go.Proofs.Ytecpajjpeeaeaaa.POrd
open Go.RowKit Go.Proofs.YtecpajjpeeaeaaaW.PrintWords Go.Proofs.YtecpajjpeeaeaaaW.PrintLast Go.Proofs.YtecpajjpeeaeaaaW.PrintMore
attribute [local go_sem] max2_int min2_int max_two min_two max_three min_three max_four min_four   -- for this text's walks alone
set_option linter.unusedVariables false
set_option linter.unusedSimpArgs false

/-! ### boxhedgelaw17_OrderRings: function 3 -/
def boxhedgelaw17_OrderRings.l0 : Nat → Int → Int → List (S24) → Int → Option (Bool)
  | 0, _, _, _, _ => none
  | k + 1, x1, x5, x6, x7 => if x7 < x5 then (if x5 = 0 then (none) else (if x6.length < 8796093022208 then (boxhedgelaw17_OrderRings.l0 k x1 x5 (x6 ++ [(⟨x7, Int.tmod (wrap64 (x7 + (wrap64 (x1)))) x5⟩ : S24)]) (wrap64 (x7 + 1))) else (none))) else ((boxhedgelaw17_awake.f k).bind fun t152 => (if t152 = true then ((boxhedgelaw17_fine.f k x6 (-1)).bind fun t153 => (some t153)) else (some false)))
def boxhedgelaw17_OrderRings.f (k : Nat) (a0 : Int) (a1 : Int) : Option (Bool) := boxhedgelaw17_OrderRings.l0 k a1 (wrap64 (1 + (Int.tmod (wrap64 (a0)) 10))) ([] : List (S24)) 0
theorem boxhedgelaw17_OrderRings.mono_l : ∀ k, (∀ y0 y1 y2 y3, LeO (boxhedgelaw17_OrderRings.l0 k y0 y1 y2 y3) (boxhedgelaw17_OrderRings.l0 (k + 1) y0 y1 y2 y3))
  | 0 => fun _ _ _ _ r h => by simp [boxhedgelaw17_OrderRings.l0] at h
  | k + 1 => by
    have ih0 := boxhedgelaw17_OrderRings.mono_l k
    · intro y0 y1 y2 y3
      unfold boxhedgelaw17_OrderRings.l0
      repeat' first
      | (with_reducible exact ih0 _ _ _ _)
      | (with_reducible exact boxhedgelaw17_awake.mono _)
      | (with_reducible exact boxhedgelaw17_fine.mono _ _ _)
      | (with_reducible exact LeO.refl _)
      | (with_reducible exact LeO.none _)
      | (with_reducible refine LeO.ite ?_ ?_)
      | (with_reducible refine LeO.bind ?_ (fun _ => ?_))
      | exact ih0 _ _ _ _
      | exact boxhedgelaw17_awake.mono _
      | exact boxhedgelaw17_fine.mono _ _ _
      | exact LeO.none _
      | refine LeO.ite ?_ ?_
      | refine LeO.bind ?_ (fun _ => ?_)
theorem boxhedgelaw17_OrderRings.mono : ∀ a0 a1 k, LeO (boxhedgelaw17_OrderRings.f k a0 a1) (boxhedgelaw17_OrderRings.f (k + 1) a0 a1) := by
  intro a0 a1 k
  have ih0 := boxhedgelaw17_OrderRings.mono_l k
  unfold boxhedgelaw17_OrderRings.f
  repeat' first
      | (with_reducible exact ih0 _ _ _ _)
      | (with_reducible exact boxhedgelaw17_awake.mono _)
      | (with_reducible exact boxhedgelaw17_fine.mono _ _ _)
      | (with_reducible exact LeO.refl _)
      | (with_reducible exact LeO.none _)
      | (with_reducible refine LeO.ite ?_ ?_)
      | (with_reducible refine LeO.bind ?_ (fun _ => ?_))
      | exact ih0 _ _ _ _
      | exact boxhedgelaw17_awake.mono _
      | exact boxhedgelaw17_fine.mono _ _ _
      | exact LeO.none _
      | refine LeO.ite ?_ ?_
      | refine LeO.bind ?_ (fun _ => ?_)
set_option maxHeartbeats 8000000 in
set_option maxRecDepth 100000 in
theorem boxhedgelaw17_OrderRings.calls (k : Nat) (a0 : Int) (a1 : Int) (r : Bool) (w : World) (h : boxhedgelaw17_OrderRings.f k a0 a1 = some r) :
    Calls Try.prog 3 #[.int .u8 a0, .int .u8 a1] w fun e w' => e = .returned (.bool r) ∧ Below w.heap.size w w' := by
  have hu24 := Try.underlying24
  have HB := Aside0.mk (Below.refl w.heap.size w)
  have H : (boxhedgelaw17_OrderRings.l0 k a1 (wrap64 (1 + (Int.tmod (wrap64 (a0)) 10))) ([] : List (S24)) 0) = some r := h
  clear h
  have H' := Aside0.mk H
  clear H
  go_enter Try.func3, Try.ntmps3
  go_wp2
  go_loopg [6, 7] k (fun kq v6 v7 w' => ∃ (x6_1 : List (S24)) (x7_1 : Int), v7 = .int .i64 x7_1 ∧ Aside0 (boxhedgelaw17_OrderRings.l0 kq a1 (wrap64 (1 + (Int.tmod (wrap64 (a0)) 10))) x6_1 x7_1 = some r) ∧ Aside0 (kq ≤ k) ∧ Aside0 (Kd.R k24 24 w' w.heap.size (fun _ => True) v6 x6_1) ∧ Aside0 (Below w.heap.size w w'))
  case atStart => exact ⟨(([] : List (S24))), (0), (by first | rfl | (simp; done) | (simp [*]; done)), H', ⟨Nat.le_refl _⟩, ⟨by first | exact Kd.R_nil _ _ _ _ _ | exact Kd.N_nil _ _ _ _ _ | exact Kd.V_nil _ _ _ _ _ | exact Kd.Q_nil _ _ _ _ _ | exact Kd.S_nil _ _ _ _ _⟩, ⟨by repeat (first | (with_reducible first | exact HB.out | apply below_alloc | apply pw_below_drewN | apply below_drew1) | exact HB.out)⟩⟩
  case round =>
    clear H'
    try clear p2
    obtain ⟨x6_1, x7_1, rfl, HA, HK1, HO_6, HB⟩ := hrel
    cases gk with
    | zero => exact absurd HA.out (by simp [boxhedgelaw17_OrderRings.l0])
    | succ k1 =>
      have H := HA.out
      clear HA
      simp only [boxhedgelaw17_OrderRings.l0] at H
      by_cases c3 : x7_1 < (wrap64 (1 + (Int.tmod (wrap64 (a0)) 10)))
      · rw [if_pos c3] at H
        have c3b0 : decide (x7_1 < (wrap64 (1 + (Int.tmod (wrap64 (a0)) 10)))) = true := decide_eq_true c3
        clear c3
        by_cases c4 : (wrap64 (1 + (Int.tmod (wrap64 (a0)) 10))) = 0
        · rw [if_pos c4] at H
          exact absurd H (by simp)
        · rw [if_neg c4] at H
          have c4b0 : ((wrap64 (1 + (Int.tmod (wrap64 (a0)) 10))) == 0) = false := beq_eq_false_iff_ne.mpr c4
          have c4b1 : ((wrap64 (1 + (Int.tmod (wrap64 (a0)) 10))) != 0) = true := bne_iff_ne.mpr c4
          by_cases c5 : x6_1.length < 8796093022208
          · rw [if_pos c5] at H
            have LMc5 := Aside0.mk c5
            clear c5
            obtain ⟨y149, hy149⟩ : ∃ y_ : List (S24), y_ = (x6_1 ++ [(⟨x7_1, Int.tmod (wrap64 (x7_1 + (wrap64 (a1)))) (wrap64 (1 + (Int.tmod (wrap64 (a0)) 10)))⟩ : S24)]) := ⟨_, rfl⟩
            replace H : (boxhedgelaw17_OrderRings.l0 k1 a1 (wrap64 (1 + (Int.tmod (wrap64 (a0)) 10))) y149 (wrap64 (x7_1 + 1))) = some r := by first | (rw [hy149]; with_reducible exact H) | (have H2_ := (Option.bind_some _ _).symm.trans H; rw [hy149]; with_reducible exact H2_) | (have H2_ := (Option.bind_some _ _).symm.trans H; with_reducible exact H2_) | with_reducible exact H | (rw [hy149]; exact H) | exact H
            have Ny149 := Aside0.mk hy149
            clear hy149
            have H' := Aside0.mk H
            clear H
            go_wp2_with (first | ((with_reducible refine gate_builtin (b := .append) (xs := #[.tmp 17, .tmp 26]) rfl ?_); at_builtin; refine Kd.R_append k24 (w0 := w) w.heap.size rfl (.tmp 17) (.tmp 26) 22 24 (.agg #[(.int .i64 0), (.int .i64 0)]) 16 rfl Try.underlying22 info24 rfl (by decide) (by omega) u6 x6_1 (⟨x7_1, Int.tmod (wrap64 (x7_1 + (wrap64 (a1)))) (wrap64 (1 + (Int.tmod (wrap64 (a0)) 10)))⟩ : S24) [.int .i64 x7_1, .int .i64 (Int.tmod (wrap64 (x7_1 + (wrap64 (a1)))) (wrap64 (1 + (Int.tmod (wrap64 (a0)) 10))))] (fun _ => True) (fun _ => False) rfl rfl ?aP (fun _ hk => hk.elim) ?aF ?aO ?aB ?aS ?aL ?_; (case aP => exact k24_mkM _ _ _ (⟨x7_1, Int.tmod (wrap64 (x7_1 + (wrap64 (a1)))) (wrap64 (1 + (Int.tmod (wrap64 (a0)) 10)))⟩ : S24)); (case aB => exact (by repeat (first | (with_reducible first | exact HB.out | apply below_alloc | apply pw_below_drewN | apply below_drew1) | exact HB.out))); (case aF => exact (fun _ _ => trivial)); (case aO => exact (by (with_reducible repeat (first | apply Kd.R_alloc | apply Kd.R_drewN | apply Kd.R_drew)); exact HO_6.out)); (case aS => exact (below_size (by repeat (first | (with_reducible first | exact HB.out | apply below_alloc | apply pw_below_drewN | apply below_drew1) | exact HB.out)))); (case aL => have := LMc5.out; omega); intro v150 w6 ho hb hg hat; rw [← Ny149.out] at ho; have n0_ := Aside0.mk (hb); have n1_ := Aside0.mk (ho); clear HB; clear HO_6; have HB := n0_; have HO151 := n1_; clear n0_ n1_; clear ho hb hg hat))
            go_roundg k1
            case measure => have := HK1.out; omega
            case rel => exact ⟨(y149), (wrap64 (x7_1 + 1)), (by first | rfl | (simp; done) | (simp [*]; done)), H', ⟨by have := HK1.out; omega⟩, ⟨by (with_reducible repeat (first | apply Kd.R_alloc | apply Kd.R_drewN | apply Kd.R_drew)); exact HO151.out⟩, ⟨by repeat (first | (with_reducible first | exact HB.out | apply below_alloc | apply pw_below_drewN | apply below_drew1) | exact HB.out)⟩⟩
          · rw [if_neg c5] at H
            exact absurd H (by simp)
      · rw [if_neg c3] at H
        have c3b0 : decide (x7_1 < (wrap64 (1 + (Int.tmod (wrap64 (a0)) 10)))) = false := decide_eq_false c3
        clear c3
        replace H := Option.bind_eq_some_iff.mp H
        obtain ⟨t152, A70, H⟩ := H
        replace H : (if t152 = true then ((boxhedgelaw17_fine.f k1 x6_1 (-1)).bind fun t153 => (some t153)) else (some false)) = some r := H
        have A7 := Aside0.mk A70
        clear A70
        by_cases c8 : t152 = true
        · subst c8
          have H1 : ((boxhedgelaw17_fine.f k1 x6_1 (-1)).bind fun t153 => (some t153)) = some r := by rw [if_pos rfl] at H; exact H
          clear H
          have H := H1
          clear H1
          replace H := Option.bind_eq_some_iff.mp H
          obtain ⟨t153, A90, H⟩ := H
          replace H : (some t153) = some r := H
          have A9 := Aside0.mk A90
          clear A90
          obtain rfl := Option.some.inj H
          go_wp2_with (first | ((with_reducible refine gate_callee (f := 5) rfl ?_); refine goesL_ (some 28) rfl rfl Try.func5 (by kernel_rfl) rfl #[] rfl (by (try simp only [List.map_toArray, List.map_cons, List.map_nil]); first | done | rfl | (simp only [List.length_drop, List.length_take]; rfl)) ?_; (with_reducible refine (boxhedgelaw17_awake.calls k1  true _ A7.out).mono ?_); rintro e w10 ⟨rfl, hb⟩; refine ⟨_, rfl, ?_⟩; have n0_ := Aside0.mk (Kd.R_below (by (with_reducible repeat (first | apply Kd.R_alloc | apply Kd.R_drewN | apply Kd.R_drew)); exact HO_6.out) hb); have n1_ := Aside0.mk (below_step (by repeat (first | (with_reducible first | exact HB.out | apply below_alloc | apply pw_below_drewN | apply below_drew1) | exact HB.out)) hb); clear HO_6; clear HB; have HO_6 := n0_; have HB := n1_; clear n0_ n1_; (try clear hb); (try clear hb2); (try clear hk); (try clear hi); obtain ⟨Ao11, co11, eo11⟩ := Kd.R_slice HO_6.out; subst eo11) | (go_at_call 6; (with_reducible refine (boxhedgelaw17_fine.calls k1 _ _ x6_1 (-1) t153 _ ?side1 ?side2 A9.out).mono ?_); (case side1 => repeat (first | exact (Kd.R_reads' HO_6.out).2.2 | (with_reducible refine Kd.C_alloc ?_ _) | (with_reducible refine Kd.C_drewN ?_ _) | (with_reducible refine Kd.C_drew ?_))); (case side2 => exact (Kd.R_reads' HO_6.out).2.1); rintro e w12 ⟨rfl, hb⟩; have n0_ := Aside0.mk (Kd.R_below (by (with_reducible repeat (first | apply Kd.R_alloc | apply Kd.R_drewN | apply Kd.R_drew)); exact HO_6.out) hb); have n1_ := Aside0.mk (below_step (by repeat (first | (with_reducible first | exact HB.out | apply below_alloc | apply pw_below_drewN | apply below_drew1) | exact HB.out)) hb); clear HO_6; clear HB; have HO_6 := n0_; have HB := n1_; clear n0_ n1_; (try clear hb); (try clear hb2); (try clear hk); (try clear hi)))
          go_ret
          exact ⟨by first | rfl | (simp [errW_none, errW_some] <;> rfl) | (simp [*, errW_none, errW_some] <;> rfl), by repeat (first | (with_reducible first | exact HB.out | apply below_alloc | apply pw_below_drewN | apply below_drew1) | exact HB.out)⟩
        · replace c8 := Bool.eq_false_iff.mpr c8
          subst c8
          have H1 : (some false) = some r := by rw [if_neg (show ¬ (false = true) by decide)] at H; exact H
          clear H
          have H := H1
          clear H1
          obtain rfl := Option.some.inj H
          go_wp2_with (first | ((with_reducible refine gate_callee (f := 5) rfl ?_); refine goesL_ (some 28) rfl rfl Try.func5 (by kernel_rfl) rfl #[] rfl (by (try simp only [List.map_toArray, List.map_cons, List.map_nil]); first | done | rfl | (simp only [List.length_drop, List.length_take]; rfl)) ?_; (with_reducible refine (boxhedgelaw17_awake.calls k1  false _ A7.out).mono ?_); rintro e w13 ⟨rfl, hb⟩; refine ⟨_, rfl, ?_⟩; have n0_ := Aside0.mk (Kd.R_below (by (with_reducible repeat (first | apply Kd.R_alloc | apply Kd.R_drewN | apply Kd.R_drew)); exact HO_6.out) hb); have n1_ := Aside0.mk (below_step (by repeat (first | (with_reducible first | exact HB.out | apply below_alloc | apply pw_below_drewN | apply below_drew1) | exact HB.out)) hb); clear HO_6; clear HB; have HO_6 := n0_; have HB := n1_; clear n0_ n1_; (try clear hb); (try clear hb2); (try clear hk); (try clear hi)))
          go_ret
          exact ⟨by first | rfl | (simp [errW_none, errW_some] <;> rfl) | (simp [*, errW_none, errW_some] <;> rfl), by repeat (first | (with_reducible first | exact HB.out | apply below_alloc | apply pw_below_drewN | apply below_drew1) | exact HB.out)⟩

/-- THE ONE PURE STATEMENT of boxhedgelaw17_OrderRings: yours. -/
def boxhedgelaw17_OrderRings.Pure : Prop := ∀ (a0 : Int) (a1 : Int), (Lit.int .u8 a0).wf = true → (Lit.int .u8 a1).wf = true → ∃ k, boxhedgelaw17_OrderRings.f k a0 a1 = some true
theorem boxhedgelaw17_OrderRings.walk (P : boxhedgelaw17_OrderRings.Pure) (a0 : Int) (a1 : Int) (w : World) (w0 : (Lit.int .u8 a0).wf = true) (w1 : (Lit.int .u8 a1).wf = true) :
    Calls Try.prog 3 #[.int .u8 a0, .int .u8 a1] w fun e w' => e = .returned (.bool true) ∧ Below w.heap.size w w' := by
  obtain ⟨k, h⟩ := P a0 a1 w0 w1
  refine (boxhedgelaw17_OrderRings.calls k a0 a1 true w h).mono ?_
  rintro e w' ⟨rfl, hd⟩
  exact ⟨rfl, hd⟩

end Go.Proofs.Ytecpajjpeeaeaaa.POrd
