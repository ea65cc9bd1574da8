/- The reference's expr at the expressions that occur. The reference's stmts at the statements that occur. Printed by ch03-rst.py. -/
import Derived.Test.YtijpghipfopplaaDoorMRefA
import Derived.Test.YtijpghipfopplaaDoorPDex8
import Derived.Test.YtijpghipfopplaaDoorPDex9
import Derived.Test.YtijpghipfopplaaDoorPDex10
import Derived.Test.YtijpghipfopplaaDoorMPutB
set_option linter.unusedVariables false
set_option linter.unusedSimpArgs false
namespace Go.Proofs.YtijpghipfopplaaDoor.PDe
open Go.RowKit Go.Proofs.YtijpghipfopplaaDoorW.PrintWords

theorem fits0 (x : Ex) : x.fits 0 = false := by rw [Ex.fits_eq]; rfl
def rE (x : Ex) : Prop := ∀ (m : Int) (w : World) (cs : List Value), 1 ≤ m → m ≤ 1000 → kE.K w x cs →
  Calls Tryd.prog 45 #[.agg cs.toArray, .int .i64 m] w fun e w' => e = .returned (.bool (x.fits m)) ∧ Below w.heap.size w w'
theorem rname (s : ByteArray) (r : Bool) (h : boxhedgeref02_Name.f 50 s = some r) (w : World) : Calls Tryd.prog 22 #[.string s] w fun e w' => e = .returned (.bool r) ∧ Below w.heap.size w w' := by
  refine (boxhedgeref02_Name.calls 50 s r w h).mono ?_
  rintro e w' ⟨rfl, ⟨n, rfl⟩⟩
  exact ⟨rfl, below_drewN (Below.refl _ _) n⟩
theorem rname_nil (w : World) : Calls Tryd.prog 22 #[.string ⟨#[]⟩] w fun e w' => e = .returned (.bool false) ∧ Below w.heap.size w w' := rname _ _ (by kernel_rfl) w
theorem rname_y (w : World) : Calls Tryd.prog 22 #[.string ⟨#[121]⟩] w fun e w' => e = .returned (.bool true) ∧ Below w.heap.size w w' := rname _ _ (by kernel_rfl) w
theorem rname_x (w : World) : Calls Tryd.prog 22 #[.string ⟨#[120]⟩] w fun e w' => e = .returned (.bool true) ∧ Below w.heap.size w w' := rname _ _ (by kernel_rfl) w
theorem rname_f (w : World) : Calls Tryd.prog 22 #[.string ⟨#[102]⟩] w fun e w' => e = .returned (.bool true) ∧ Below w.heap.size w w' := rname _ _ (by kernel_rfl) w
theorem risone (w : World) : Calls Tryd.prog 63 #[.int .i64 20] w fun e w' => e = .returned (.bool true) ∧ Below w.heap.size w w' := by
  refine (boxhedgeref01_IsOne.calls 20 true w (by kernel_rfl)).mono ?_
  rintro e w' ⟨rfl, ⟨n, rfl⟩⟩
  exact ⟨rfl, below_drewN (Below.refl _ _) n⟩
set_option maxHeartbeats 2000000 in
set_option maxRecDepth 100000 in
theorem re_num (n : Nat) : rE (.num n) := by
  intro m w cs hm hm2 hK
  have hu24 := Tryd.underlying24
  obtain ⟨A, c, rfl, _⟩ := kE_open hK
  have hN := fun w => rname_nil w
  have hf : (Ex.num n).fits m = true := decide_eq_true (by omega)
  rw [hf]
  clear hK hf
  have hD : dig n = 0 ∨ dig n = 1 ∨ dig n = 2 := by match n with | 0 => exact .inl rfl | 1 => exact .inr (.inl rfl) | _ + 2 => exact .inr (.inr rfl)
  show Calls Tryd.prog 45 #[.agg #[.int .i64 1, .int .i64 0, .int .i64 (dig n), .string ⟨#[]⟩, .slice A 0 c], .int .i64 m] w _
  generalize dig n = D at *
  rcases hD with rfl | rfl | rfl
  all_goals
    go_enter Tryd.func45, Tryd.ntmps45
    go_wp2
    refine wp_loop_rounds 1 ?_
    rw [rounds_succ]
    go_wp2_with (first
      | (go_at_call 22; refine (hN _).mono ?_; rintro e w1 ⟨rfl, hb1⟩; obtain ⟨p0, B1⟩ := one_row hb1; have q0 := p0 0; have q1 := p0 1; have q2 := p0 2; have q3 := p0 3; have q4 := p0 4; clear p0 hb1; simp at q0 q1 q2 q3 q4))
    go_ret
    exact ⟨rfl, B1⟩
set_option maxHeartbeats 2000000 in
set_option maxRecDepth 100000 in
theorem re_var : rE .var := by
  intro m w cs hm hm2 hK
  have hu24 := Tryd.underlying24
  obtain ⟨A, c, rfl, _⟩ := kE_open hK
  have hN := fun w => rname_y w
  have hf : Ex.var.fits m = true := decide_eq_true (by omega)
  rw [hf]
  clear hK hf
  show Calls Tryd.prog 45 #[.agg #[.int .i64 3, .int .i64 0, .int .i64 0, .string ⟨#[121]⟩, .slice A 0 c], .int .i64 m] w _
  go_enter Tryd.func45, Tryd.ntmps45
  go_wp2
  refine wp_loop_rounds 1 ?_
  rw [rounds_succ]
  go_wp2_with (first
    | (go_at_call 22; refine (hN _).mono ?_; rintro e w1 ⟨rfl, hb1⟩; obtain ⟨p0, B1⟩ := one_row hb1; have q0 := p0 0; have q1 := p0 1; have q2 := p0 2; have q3 := p0 3; have q4 := p0 4; clear p0 hb1; simp at q0 q1 q2 q3 q4))
  go_ret
  exact ⟨rfl, B1⟩
set_option maxHeartbeats 2000000 in
set_option maxRecDepth 100000 in
theorem re_neg (e : Ex) (hE : rE e) : rE (.neg e) := by
  intro m w cs hm hm2 hK
  have hu24 := Tryd.underlying24
  obtain ⟨A, c, rfl, hc, hC⟩ := kE_open hK
  obtain ⟨ad, ecs, rfl, hKe, hld⟩ := parts_at hC 0 e rfl
  obtain ⟨A2, c2, rfl, _⟩ := kE_open hKe
  have HLD : Aside0 (∀ w1, Below w.heap.size w w1 → Five ad (.int .i64 e.kind) (.int .i64 e.op) (.int .i64 e.n) (.string e.nm) (.slice A2 e.args.length c2) w1) := ⟨fun w1 h => five_at (hld w1 h)⟩
  have HE : Aside0 (2 ≤ m → ∀ w', Below w.heap.size w w' → Calls Tryd.prog 45 #[.agg #[.int .i64 e.kind, .int .i64 e.op, .int .i64 e.n, .string e.nm, .slice A2 e.args.length c2], .int .i64 (m - 1)] w' fun r w'' => r = .returned (.bool (e.fits (m - 1))) ∧ Below w'.heap.size w' w'') := ⟨fun h w' hb => hE (m - 1) w' _ (by omega) (by omega) (kE.K_below hb hKe)⟩
  have hN := fun w => rname_nil w
  have hI := fun w => risone w
  have HB : Below w.heap.size w (w.alloc (.cells #[.int .i64 4, .int .i64 20, .int .i64 0, .string ⟨#[]⟩, .slice (some ad) 1 c] 24)) := (Below.refl _ w).alloc (Nat.le_refl _) _
  obtain ⟨a0, a1, a2, a3, a4⟩ := HLD.out _ HB
  have HBB := Aside0.mk HB
  have e1 : (Ex.neg e).fits m = (decide (0 < m) && e.fits (m - 1)) := rfl
  have e2 : m = 1 → e.fits (m - 1) = false := fun h => by subst h; exact fits0 e
  rw [e1, decide_eq_true (show 0 < m by omega), Bool.true_and]
  clear hK hC hKe hld hE hc HB e1
  show Calls Tryd.prog 45 #[.agg #[.int .i64 4, .int .i64 20, .int .i64 0, .string ⟨#[]⟩, .slice (some ad) 1 c], .int .i64 m] w _
  generalize e.kind = K at *; generalize e.op = O at *; generalize e.n = N at *; generalize e.nm = S at *; generalize e.args.length = L at *
  have hw1 : wrap64 (m - 1) = m - 1 := by unfold wrap64; omega
  by_cases h2 : m < 2
  · have e3 := e2 (by omega)
    rw [e3]
    clear e3 e2 HE hw1
    generalize e.fits (m - 1) = r at *
    go_enter Tryd.func45, Tryd.ntmps45
    go_wp2
    refine wp_loop_rounds 2 ?_
    rw [rounds_succ]
    go_wp2
    go_ret
    exact ⟨rfl, HBB.out⟩
  · have HE2 := Aside0.mk (HE.out (by omega))
    clear e2 HE
    generalize e.fits (m - 1) = r at *
    cases r with
    | false =>
      go_enter Tryd.func45, Tryd.ntmps45
      go_wp2
      refine wp_loop_rounds 2 ?_
      rw [rounds_succ]
      go_wp2_with (first
        | (go_at_call 45; refine (HE2.out _ HBB.out).mono ?_; rintro r w1 ⟨rfl, hb1⟩; obtain ⟨p0, B1⟩ := one_row hb1; have q0 := p0 0; have q1 := p0 1; have q2 := p0 2; have q3 := p0 3; have q4 := p0 4; clear p0 hb1; simp at q0 q1 q2 q3 q4))
      go_ret
      exact ⟨rfl, B1⟩
    | true =>
      go_enter Tryd.func45, Tryd.ntmps45
      go_wp2
      refine wp_loop_rounds 2 ?_
      rw [rounds_succ]
      go_wp2_with (first
        | (go_at_call 45; refine (HE2.out _ HBB.out).mono ?_; rintro r w1 ⟨rfl, hb1⟩; obtain ⟨p0, B1⟩ := one_row hb1; have q0 := p0 0; have q1 := p0 1; have q2 := p0 2; have q3 := p0 3; have q4 := p0 4; clear p0 hb1; simp at q0 q1 q2 q3 q4; clear HE2))
      rw [rounds_succ]
      have hs1 : w.heap.size < w1.heap.size := block_lt_of_cell q0
      go_wp2_with (first
        | (go_at_call 22; refine (hN _).mono ?_; rintro r w2 ⟨rfl, hb2⟩; have v0 := pw_cell_below hb2 q0; have v1 := pw_cell_below hb2 q1; have v2 := pw_cell_below hb2 q2; have v3 := pw_cell_below hb2 q3; have v4 := pw_cell_below hb2 q4; have B2 := B1.trans (hb2.mono B1.size))
        | (go_at_call 63; refine (hI _).mono ?_; rintro r w3 ⟨rfl, hb3⟩; have u0 := pw_cell_below hb3 v0; have u1 := pw_cell_below hb3 v1; have u2 := pw_cell_below hb3 v2; have u3 := pw_cell_below hb3 v3; have u4 := pw_cell_below hb3 v4; have B3 := B2.trans (hb3.mono B2.size)))
      go_ret
      exact ⟨rfl, B3⟩
theorem rlevel_pos (o : Nat) (w : World) : Calls Tryd.prog 57 #[.int .i64 (opI o)] w fun e w' => ∃ l, e = .returned (.int .i64 l) ∧ decide (l > 0) = true ∧ Below w.heap.size w w' :=
  (rlevel o w).mono fun e w' h => ⟨_, h.1, decide_eq_true (by have := lvN_bd o; omega), h.2⟩
set_option maxHeartbeats 4000000 in
set_option maxRecDepth 100000 in
theorem re_two (o : Nat) (e f : Ex) (hE : rE e) (hF : rE f) : rE (.two o e f) := by
  intro m w cs hm hm2 hK
  have hu24 := Tryd.underlying24
  obtain ⟨A, c, rfl, hc, hC⟩ := kE_open hK
  obtain ⟨ad, ecs, hA1, hKe, hld⟩ := parts_at hC 0 e rfl
  obtain ⟨ad', fcs, hA2, hKf, hlf⟩ := parts_at hC 1 f rfl
  subst hA1
  obtain rfl := Option.some.inj hA2
  obtain ⟨A2, c2, rfl, _⟩ := kE_open hKe
  obtain ⟨A3, c3, rfl, _⟩ := kE_open hKf
  have HLD : Aside0 (∀ w1, Below w.heap.size w w1 → Five ad (.int .i64 e.kind) (.int .i64 e.op) (.int .i64 e.n) (.string e.nm) (.slice A2 e.args.length c2) w1) := ⟨fun w1 h => five_at (hld w1 h)⟩
  have HLF : Aside0 (∀ w1, Below w.heap.size w w1 → Five ⟨ad.block, ad.off + 5, none⟩ (.int .i64 f.kind) (.int .i64 f.op) (.int .i64 f.n) (.string f.nm) (.slice A3 f.args.length c3) w1) := ⟨fun w1 h => five_at (hlf w1 h)⟩
  have HE : Aside0 (2 ≤ m → ∀ w', Below w.heap.size w w' → Calls Tryd.prog 45 #[.agg #[.int .i64 e.kind, .int .i64 e.op, .int .i64 e.n, .string e.nm, .slice A2 e.args.length c2], .int .i64 (m - 1)] w' fun r w'' => r = .returned (.bool (e.fits (m - 1))) ∧ Below w'.heap.size w' w'') := ⟨fun h w' hb => hE (m - 1) w' _ (by omega) (by omega) (kE.K_below hb hKe)⟩
  have HF : Aside0 (2 ≤ m → ∀ w', Below w.heap.size w w' → Calls Tryd.prog 45 #[.agg #[.int .i64 f.kind, .int .i64 f.op, .int .i64 f.n, .string f.nm, .slice A3 f.args.length c3], .int .i64 (m - 1)] w' fun r w'' => r = .returned (.bool (f.fits (m - 1))) ∧ Below w'.heap.size w' w'') := ⟨fun h w' hb => hF (m - 1) w' _ (by omega) (by omega) (kE.K_below hb hKf)⟩
  have hN := fun w => rname_nil w
  have hI := fun w => rlevel o w
  have hlv := lvN_bd o
  have hop : (opI o == 0) = false := by match o with | 0 => rfl | 1 => rfl | _ + 2 => rfl
  have HB : Below w.heap.size w (w.alloc (.cells #[.int .i64 5, .int .i64 (opI o), .int .i64 0, .string ⟨#[]⟩, .slice (some ad) 2 c] 24)) := (Below.refl _ w).alloc (Nat.le_refl _) _
  obtain ⟨a0, a1, a2, a3, a4⟩ := HLD.out _ HB
  have HBB := Aside0.mk HB
  have e1 : (Ex.two o e f).fits m = (decide (0 < m) && (e.fits (m - 1) && f.fits (m - 1))) := rfl
  have e2 : m = 1 → e.fits (m - 1) = false := fun h => by subst h; exact fits0 e
  rw [e1, decide_eq_true (show 0 < m by omega), Bool.true_and]
  clear hK hC hKe hld hE hc HB e1 hF hKf hlf hA2
  show Calls Tryd.prog 45 #[.agg #[.int .i64 5, .int .i64 (opI o), .int .i64 0, .string ⟨#[]⟩, .slice (some ad) 2 c], .int .i64 m] w _
  generalize e.kind = K at *; generalize e.op = O at *; generalize e.n = N at *; generalize e.nm = S at *; generalize e.args.length = L at *
  generalize f.kind = K' at *; generalize f.op = O' at *; generalize f.n = N' at *; generalize f.nm = S' at *; generalize f.args.length = L' at *
  generalize opI o = OP at *
  generalize lvN o = V at *
  have hw1 : wrap64 (m - 1) = m - 1 := by unfold wrap64; omega
  by_cases h2 : m < 2
  · have e3 := e2 (by omega)
    rw [e3]
    clear e3 e2 HE HF hw1
    generalize f.fits (m - 1) = r at *
    rw [Bool.false_and]
    go_enter Tryd.func45, Tryd.ntmps45
    go_wp2
    refine wp_loop_rounds 3 ?_
    rw [rounds_succ]
    go_wp2
    go_ret
    exact ⟨rfl, HBB.out⟩
  · have HE2 := Aside0.mk (HE.out (by omega))
    have HF2 := Aside0.mk (HF.out (by omega))
    clear e2 HE HF
    generalize e.fits (m - 1) = r at *
    generalize f.fits (m - 1) = s at *
    cases r with
    | false =>
      rw [Bool.false_and]
      go_enter Tryd.func45, Tryd.ntmps45
      go_wp2
      refine wp_loop_rounds 3 ?_
      rw [rounds_succ]
      go_wp2_with (first
        | (go_at_call 45; refine (HE2.out _ HBB.out).mono ?_; rintro r w1 ⟨rfl, hb1⟩; obtain ⟨p0, B1⟩ := one_row hb1; have q0 := p0 0; have q1 := p0 1; have q2 := p0 2; have q3 := p0 3; have q4 := p0 4; clear p0 hb1; simp at q0 q1 q2 q3 q4))
      go_ret
      exact ⟨rfl, B1⟩
    | true =>
      rw [Bool.true_and]
      cases s with
      | false =>
        go_enter Tryd.func45, Tryd.ntmps45
        go_wp2
        refine wp_loop_rounds 3 ?_
        rw [rounds_succ]
        go_wp2_with (first
          | (go_at_call 45; refine (HE2.out _ HBB.out).mono ?_; rintro r w1 ⟨rfl, hb1⟩; obtain ⟨p0, B1⟩ := one_row hb1; have q0 := p0 0; have q1 := p0 1; have q2 := p0 2; have q3 := p0 3; have q4 := p0 4; clear p0 hb1; simp at q0 q1 q2 q3 q4; clear HE2))
        clear a0 a1 a2 a3 a4
        obtain ⟨b0, b1, b2, b3, b4⟩ := HLF.out _ B1
        rw [rounds_succ]
        go_wp2_with (first
          | (go_at_call 45; refine (HF2.out _ B1).mono ?_; rintro r w2 ⟨rfl, hb2⟩; have v0 := pw_cell_below hb2 q0; have v1 := pw_cell_below hb2 q1; have v2 := pw_cell_below hb2 q2; have v3 := pw_cell_below hb2 q3; have v4 := pw_cell_below hb2 q4; have B2 := B1.trans (hb2.mono B1.size)))
        go_ret
        exact ⟨rfl, B2⟩
      | true =>
        go_enter Tryd.func45, Tryd.ntmps45
        go_wp2
        refine wp_loop_rounds 3 ?_
        rw [rounds_succ]
        go_wp2_with (first
          | (go_at_call 45; refine (HE2.out _ HBB.out).mono ?_; rintro r w1 ⟨rfl, hb1⟩; obtain ⟨p0, B1⟩ := one_row hb1; have q0 := p0 0; have q1 := p0 1; have q2 := p0 2; have q3 := p0 3; have q4 := p0 4; clear p0 hb1; simp at q0 q1 q2 q3 q4; clear HE2))
        clear a0 a1 a2 a3 a4
        obtain ⟨b0, b1, b2, b3, b4⟩ := HLF.out _ B1
        rw [rounds_succ]
        go_wp2_with (first
          | (go_at_call 45; refine (HF2.out _ B1).mono ?_; rintro r w2 ⟨rfl, hb2⟩; have v0 := pw_cell_below hb2 q0; have v1 := pw_cell_below hb2 q1; have v2 := pw_cell_below hb2 q2; have v3 := pw_cell_below hb2 q3; have v4 := pw_cell_below hb2 q4; have B2 := B1.trans (hb2.mono B1.size); clear HF2))
        clear b0 b1 b2 b3 b4 q0 q1 q2 q3 q4
        rw [rounds_succ]
        go_wp2_with (first
          | (go_at_call 22; refine (hN _).mono ?_; rintro r w3 ⟨rfl, hb3⟩; have u0 := pw_cell_below hb3 v0; have u1 := pw_cell_below hb3 v1; have u2 := pw_cell_below hb3 v2; have u3 := pw_cell_below hb3 v3; have u4 := pw_cell_below hb3 v4; have B3 := B2.trans (hb3.mono B2.size))
          | (go_at_call 57; refine (hI _).mono ?_; rintro r w4 ⟨rfl, hb4⟩; have x0 := pw_cell_below hb4 u0; have x1 := pw_cell_below hb4 u1; have x2 := pw_cell_below hb4 u2; have x3 := pw_cell_below hb4 u3; have x4 := pw_cell_below hb4 u4; have B4 := B3.trans (hb4.mono B3.size)))
        go_ret
        exact ⟨rfl, B4⟩
theorem re_calls : ∀ x, rE x
  | .num n => re_num n
  | .var => re_var
  | .neg e => re_neg e (re_calls e)
  | .two o a b => re_two o a b (re_calls a) (re_calls b)
end Go.Proofs.YtijpghipfopplaaDoor.PDe
namespace Go.Proofs.YtijpghipfopplaaDoor.PDe
open Go.RowKit Go.Proofs.YtijpghipfopplaaDoorW.PrintWords

def rS (b : Bl) : Prop := ∀ (m : Int) (w : World) (A : Option Addr) (c : Nat), 0 ≤ m → m ≤ 1000 → Kd.C kS w A b.lst.length b.lst →
  Calls Tryd.prog 24 #[.slice A b.lst.length c, .int .i64 m] w fun e w' => e = .returned (.bool (b.fits m)) ∧ Below w.heap.size w w'
theorem rshape (K : Int) (r1 r2 : Bool) (r3 : Int) (r4 r5 : Bool) (h : boxhedgeref03_shape.f 5 K = some (r1, r2, r3, r4, r5)) (w : World) :
    Calls Tryd.prog 44 #[.int .i64 K] w fun e w' => e = .returned (.tuple #[.bool r1, .bool r2, .int .i64 r3, .bool r4, .bool r5]) ∧ Below w.heap.size w w' := by
  refine (boxhedgeref03_shape.calls 5 K r1 r2 r3 r4 r5 w h).mono ?_
  rintro e w' ⟨rfl, ⟨n, rfl⟩⟩
  exact ⟨rfl, below_drewN (Below.refl _ _) n⟩
theorem six_row {w : World} {B T : Nat} {a b c d e f : Value} (h : w.heap[B]? = some (.cells #[a, b, c, d, e, f] T (0, 0))) :
    w.cell? ⟨B, 0, none⟩ = some a ∧ w.cell? ⟨B, 1, none⟩ = some b ∧ w.cell? ⟨B, 2, none⟩ = some c ∧ w.cell? ⟨B, 3, none⟩ = some d ∧ w.cell? ⟨B, 4, none⟩ = some e ∧ w.cell? ⟨B, 5, none⟩ = some f :=
  ⟨cell_of_row _ _ 0 _ _ _ h, cell_of_row _ _ 1 _ _ _ h, cell_of_row _ _ 2 _ _ _ h, cell_of_row _ _ 3 _ _ _ h, cell_of_row _ _ 4 _ _ _ h, cell_of_row _ _ 5 _ _ _ h⟩
theorem row_keep {w w1 : World} {B T : Nat} {cs : Array Value} (hb : Below w.heap.size w w1) (h : w.heap[B]? = some (.cells cs T (0, 0))) : w1.heap[B]? = some (.cells cs T (0, 0)) :=
  (hb.block B (Array.getElem?_eq_some_iff.1 h).1).trans h
set_option maxHeartbeats 2000000 in
set_option maxRecDepth 100000 in
theorem rs_nil : rS .nil := by
  intro m w A c h0 h1 hC
  clear hC
  show Calls Tryd.prog 24 #[.slice A 0 c, .int .i64 m] w fun e w' => e = .returned (.bool true) ∧ Below w.heap.size w w'
  go_enter Tryd.func24, Tryd.ntmps24
  go_wp2
  refine wp_loop_rounds 1 ?_
  rw [rounds_succ]
  go_wp2
  go_ret
  exact ⟨rfl, Below.refl _ _⟩

set_option maxHeartbeats 4000000 in
set_option maxRecDepth 100000 in
theorem rs_set (e : Ex) : rS (.set e) := by
  intro m w A c h0 h1 hC
  have hu24 := Tryd.underlying24
  have hu27 := Tryd.underlying27
  obtain ⟨ad, cs, rfl, hK, hld⟩ := stmt_at hC 0 (.set e) rfl
  obtain ⟨A3, c3, A4, c4, A5, c5, rfl, hc3, hC3, hc4, hC4, hc5, hC5⟩ := kS_open hK
  obtain ⟨ad2, ecs, rfl, hKe, hle⟩ := parts_at hC3 0 e rfl
  obtain ⟨A2, c2, rfl, _⟩ := kE_open hKe
  have hsix : Six ad (.int .i64 2) (.int .i64 0) (.string ⟨#[120]⟩) (.slice (some ad2) 1 c3) (.slice A4 0 c4) (.slice A5 0 c5) w := six_at (hld w (Below.refl _ w))
  obtain ⟨s0, s1, s2, s3, s4, s5⟩ := hsix
  have HLD : Aside0 (∀ w1, Below w.heap.size w w1 → Five ad2 (.int .i64 e.kind) (.int .i64 e.op) (.int .i64 e.n) (.string e.nm) (.slice A2 e.args.length c2) w1) := ⟨fun w1 h => five_at (hle w1 h)⟩
  have HS := fun w => rshape 2 false true 1 false false (by kernel_rfl) w
  have HN := fun w => rname_x w
  have HE : Aside0 (∀ w', Below w.heap.size w w' → Calls Tryd.prog 45 #[.agg #[.int .i64 e.kind, .int .i64 e.op, .int .i64 e.n, .string e.nm, .slice A2 e.args.length c2], .int .i64 100] w' fun r w'' => r = .returned (.bool (e.fits 100)) ∧ Below w'.heap.size w' w'') := ⟨fun w' hb => re_calls e 100 w' _ (by omega) (by omega) (kE.K_below hb hKe)⟩
  have HT : Aside0 (1 ≤ m → ∀ w', Below w.heap.size w w' → Calls Tryd.prog 24 #[.slice A4 0 c4, .int .i64 (m - 1)] w' fun r w'' => r = .returned (.bool (true)) ∧ Below w'.heap.size w' w'') := ⟨fun h w' hb => rs_nil (m - 1) w' A4 c4 (by omega) (by omega) (Kd.C_below hC4 hb)⟩
  have HO : Aside0 (1 ≤ m → ∀ w', Below w.heap.size w w' → Calls Tryd.prog 24 #[.slice A5 0 c5, .int .i64 (m - 1)] w' fun r w'' => r = .returned (.bool (true)) ∧ Below w'.heap.size w' w'') := ⟨fun h w' hb => rs_nil (m - 1) w' A5 c5 (by omega) (by omega) (Kd.C_below hC5 hb)⟩
  have hf : Bl.fits (.set e) m = (decide (1 ≤ m) && e.fits 100) := rfl
  rw [hf]
  clear hK hld hc3 hC3 hKe hle hc4 hC4 hc5 hC5 hC hf
  show Calls Tryd.prog 24 #[.slice (some ad) 1 c, .int .i64 m] w _
  have hw1 : wrap64 (m - 1) = m - 1 := by unfold wrap64; omega
  generalize e.kind = K at *; generalize e.op = O at *; generalize e.n = N at *; generalize e.nm = S at *; generalize e.args.length = L at *
  generalize e.fits 100 = q at *
  have B0 : Aside0 (Below w.heap.size w (w.alloc (.cells #[.int .i64 2, .int .i64 0, .string ⟨#[120]⟩, .slice (some ad2) 1 c3, .slice A4 0 c4, .slice A5 0 c5] 27))) := ⟨(Below.refl _ w).alloc (Nat.le_refl _) _⟩
  have R0 : Aside0 ((w.alloc (.cells #[.int .i64 2, .int .i64 0, .string ⟨#[120]⟩, .slice (some ad2) 1 c3, .slice A4 0 c4, .slice A5 0 c5] 27)).heap[w.heap.size]? = some (.cells #[.int .i64 2, .int .i64 0, .string ⟨#[120]⟩, .slice (some ad2) 1 c3, .slice A4 0 c4, .slice A5 0 c5] 27 (0, 0))) := ⟨heap_alloc_new w _⟩
  by_cases hm : m < 1
  · rw [decide_eq_false (by omega), Bool.false_and]
    clear HE HT HO hw1
    go_enter Tryd.func24, Tryd.ntmps24
    go_wp2
    refine wp_loop_rounds 2 ?_
    rw [rounds_succ]
    go_wp2_with (first
      | (go_at_call 44; refine (HS _).mono ?_; rintro r w1 ⟨rfl, hb1⟩; have R1 := Aside0.mk (row_keep hb1 R0.out); have B1 := Aside0.mk (B0.out.trans (hb1.mono B0.out.size)); obtain ⟨y0, y1, y2, y3, y4, y5⟩ := six_row R1.out; obtain ⟨e0, e1, e2, e3, e4⟩ := HLD.out _ B1.out; clear hb1))
    go_ret
    exact ⟨rfl, B1.out⟩
  · have hm1 : 1 ≤ m := by omega
    rw [decide_eq_true hm1, Bool.true_and]
    have HT1 := Aside0.mk (HT.out hm1); have HO1 := Aside0.mk (HO.out hm1)
    clear HT HO
    cases q with
    | false =>
      go_enter Tryd.func24, Tryd.ntmps24
      go_wp2
      refine wp_loop_rounds 2 ?_
      rw [rounds_succ]
      go_wp2_with (first
        | (go_at_call 44; refine (HS _).mono ?_; rintro r w1 ⟨rfl, hb1⟩; have R1 := Aside0.mk (row_keep hb1 R0.out); have B1 := Aside0.mk (B0.out.trans (hb1.mono B0.out.size)); obtain ⟨y0, y1, y2, y3, y4, y5⟩ := six_row R1.out; obtain ⟨e0, e1, e2, e3, e4⟩ := HLD.out _ B1.out; clear hb1 HS)
        | (go_at_call 22; refine (HN _).mono ?_; rintro r w2 ⟨rfl, hb2⟩; have R2 := Aside0.mk (row_keep hb2 R1.out); have B2 := Aside0.mk (B1.out.trans (hb2.mono B1.out.size)); obtain ⟨y0, y1, y2, y3, y4, y5⟩ := six_row R2.out; obtain ⟨e0, e1, e2, e3, e4⟩ := HLD.out _ B2.out; clear hb2 HN))
      refine wp_loop_rounds 2 ?_
      rw [rounds_succ]
      go_wp2_with (first
        | (go_at_call 45; refine (HE.out _ B2.out).mono ?_; rintro r w3 ⟨rfl, hb3⟩; have R3 := Aside0.mk (row_keep hb3 R2.out); have B3 := Aside0.mk (B2.out.trans (hb3.mono B2.out.size)); obtain ⟨y0, y1, y2, y3, y4, y5⟩ := six_row R3.out; obtain ⟨e0, e1, e2, e3, e4⟩ := HLD.out _ B3.out; clear hb3 HE))
      go_ret
      exact ⟨rfl, B3.out⟩
    | true =>
      go_enter Tryd.func24, Tryd.ntmps24
      go_wp2
      refine wp_loop_rounds 2 ?_
      rw [rounds_succ]
      go_wp2_with (first
        | (go_at_call 44; refine (HS _).mono ?_; rintro r w1 ⟨rfl, hb1⟩; have R1 := Aside0.mk (row_keep hb1 R0.out); have B1 := Aside0.mk (B0.out.trans (hb1.mono B0.out.size)); obtain ⟨y0, y1, y2, y3, y4, y5⟩ := six_row R1.out; obtain ⟨e0, e1, e2, e3, e4⟩ := HLD.out _ B1.out; clear hb1 HS)
        | (go_at_call 22; refine (HN _).mono ?_; rintro r w2 ⟨rfl, hb2⟩; have R2 := Aside0.mk (row_keep hb2 R1.out); have B2 := Aside0.mk (B1.out.trans (hb2.mono B1.out.size)); obtain ⟨y0, y1, y2, y3, y4, y5⟩ := six_row R2.out; obtain ⟨e0, e1, e2, e3, e4⟩ := HLD.out _ B2.out; clear hb2 HN))
      refine wp_loop_rounds 2 ?_
      rw [rounds_succ]
      go_wp2_with (first
        | (go_at_call 45; refine (HE.out _ B2.out).mono ?_; rintro r w3 ⟨rfl, hb3⟩; have R3 := Aside0.mk (row_keep hb3 R2.out); have B3 := Aside0.mk (B2.out.trans (hb3.mono B2.out.size)); obtain ⟨y0, y1, y2, y3, y4, y5⟩ := six_row R3.out; obtain ⟨e0, e1, e2, e3, e4⟩ := HLD.out _ B3.out; clear hb3 HE))
      rw [rounds_succ]
      go_wp2_with (first
        | (go_at_call 24; refine (HT1.out _ B3.out).mono ?_; rintro r w4 ⟨rfl, hb4⟩; have R4 := Aside0.mk (row_keep hb4 R3.out); have B4 := Aside0.mk (B3.out.trans (hb4.mono B3.out.size)); obtain ⟨y0, y1, y2, y3, y4, y5⟩ := six_row R4.out; obtain ⟨e0, e1, e2, e3, e4⟩ := HLD.out _ B4.out; clear hb4 HT1)
        | (go_at_call 24; refine (HO1.out _ B4.out).mono ?_; rintro r w5 ⟨rfl, hb5⟩; have R5 := Aside0.mk (row_keep hb5 R4.out); have B5 := Aside0.mk (B4.out.trans (hb5.mono B4.out.size)); obtain ⟨y0, y1, y2, y3, y4, y5⟩ := six_row R5.out; obtain ⟨e0, e1, e2, e3, e4⟩ := HLD.out _ B5.out; clear hb5 HO1))
      rw [rounds_succ]
      go_wp2
      go_ret
      exact ⟨rfl, B5.out⟩
set_option maxHeartbeats 4000000 in
set_option maxRecDepth 100000 in
theorem rs_ret (e : Ex) : rS (.ret e) := by
  intro m w A c h0 h1 hC
  have hu24 := Tryd.underlying24
  have hu27 := Tryd.underlying27
  obtain ⟨ad, cs, rfl, hK, hld⟩ := stmt_at hC 0 (.ret e) rfl
  obtain ⟨A3, c3, A4, c4, A5, c5, rfl, hc3, hC3, hc4, hC4, hc5, hC5⟩ := kS_open hK
  obtain ⟨ad2, ecs, rfl, hKe, hle⟩ := parts_at hC3 0 e rfl
  obtain ⟨A2, c2, rfl, _⟩ := kE_open hKe
  have hsix : Six ad (.int .i64 8) (.int .i64 0) (.string ⟨#[]⟩) (.slice (some ad2) 1 c3) (.slice A4 0 c4) (.slice A5 0 c5) w := six_at (hld w (Below.refl _ w))
  obtain ⟨s0, s1, s2, s3, s4, s5⟩ := hsix
  have HLD : Aside0 (∀ w1, Below w.heap.size w w1 → Five ad2 (.int .i64 e.kind) (.int .i64 e.op) (.int .i64 e.n) (.string e.nm) (.slice A2 e.args.length c2) w1) := ⟨fun w1 h => five_at (hle w1 h)⟩
  have HS := fun w => rshape 8 false false 1 false false (by kernel_rfl) w
  have HN := fun w => rname_nil w
  have HE : Aside0 (∀ w', Below w.heap.size w w' → Calls Tryd.prog 45 #[.agg #[.int .i64 e.kind, .int .i64 e.op, .int .i64 e.n, .string e.nm, .slice A2 e.args.length c2], .int .i64 100] w' fun r w'' => r = .returned (.bool (e.fits 100)) ∧ Below w'.heap.size w' w'') := ⟨fun w' hb => re_calls e 100 w' _ (by omega) (by omega) (kE.K_below hb hKe)⟩
  have HT : Aside0 (1 ≤ m → ∀ w', Below w.heap.size w w' → Calls Tryd.prog 24 #[.slice A4 0 c4, .int .i64 (m - 1)] w' fun r w'' => r = .returned (.bool (true)) ∧ Below w'.heap.size w' w'') := ⟨fun h w' hb => rs_nil (m - 1) w' A4 c4 (by omega) (by omega) (Kd.C_below hC4 hb)⟩
  have HO : Aside0 (1 ≤ m → ∀ w', Below w.heap.size w w' → Calls Tryd.prog 24 #[.slice A5 0 c5, .int .i64 (m - 1)] w' fun r w'' => r = .returned (.bool (true)) ∧ Below w'.heap.size w' w'') := ⟨fun h w' hb => rs_nil (m - 1) w' A5 c5 (by omega) (by omega) (Kd.C_below hC5 hb)⟩
  have hf : Bl.fits (.ret e) m = (decide (1 ≤ m) && e.fits 100) := rfl
  rw [hf]
  clear hK hld hc3 hC3 hKe hle hc4 hC4 hc5 hC5 hC hf
  show Calls Tryd.prog 24 #[.slice (some ad) 1 c, .int .i64 m] w _
  have hw1 : wrap64 (m - 1) = m - 1 := by unfold wrap64; omega
  generalize e.kind = K at *; generalize e.op = O at *; generalize e.n = N at *; generalize e.nm = S at *; generalize e.args.length = L at *
  generalize e.fits 100 = q at *
  have B0 : Aside0 (Below w.heap.size w (w.alloc (.cells #[.int .i64 8, .int .i64 0, .string ⟨#[]⟩, .slice (some ad2) 1 c3, .slice A4 0 c4, .slice A5 0 c5] 27))) := ⟨(Below.refl _ w).alloc (Nat.le_refl _) _⟩
  have R0 : Aside0 ((w.alloc (.cells #[.int .i64 8, .int .i64 0, .string ⟨#[]⟩, .slice (some ad2) 1 c3, .slice A4 0 c4, .slice A5 0 c5] 27)).heap[w.heap.size]? = some (.cells #[.int .i64 8, .int .i64 0, .string ⟨#[]⟩, .slice (some ad2) 1 c3, .slice A4 0 c4, .slice A5 0 c5] 27 (0, 0))) := ⟨heap_alloc_new w _⟩
  by_cases hm : m < 1
  · rw [decide_eq_false (by omega), Bool.false_and]
    clear HE HT HO hw1
    go_enter Tryd.func24, Tryd.ntmps24
    go_wp2
    refine wp_loop_rounds 2 ?_
    rw [rounds_succ]
    go_wp2_with (first
      | (go_at_call 44; refine (HS _).mono ?_; rintro r w1 ⟨rfl, hb1⟩; have R1 := Aside0.mk (row_keep hb1 R0.out); have B1 := Aside0.mk (B0.out.trans (hb1.mono B0.out.size)); obtain ⟨y0, y1, y2, y3, y4, y5⟩ := six_row R1.out; obtain ⟨e0, e1, e2, e3, e4⟩ := HLD.out _ B1.out; clear hb1))
    go_ret
    exact ⟨rfl, B1.out⟩
  · have hm1 : 1 ≤ m := by omega
    rw [decide_eq_true hm1, Bool.true_and]
    have HT1 := Aside0.mk (HT.out hm1); have HO1 := Aside0.mk (HO.out hm1)
    clear HT HO
    cases q with
    | false =>
      go_enter Tryd.func24, Tryd.ntmps24
      go_wp2
      refine wp_loop_rounds 2 ?_
      rw [rounds_succ]
      go_wp2_with (first
        | (go_at_call 44; refine (HS _).mono ?_; rintro r w1 ⟨rfl, hb1⟩; have R1 := Aside0.mk (row_keep hb1 R0.out); have B1 := Aside0.mk (B0.out.trans (hb1.mono B0.out.size)); obtain ⟨y0, y1, y2, y3, y4, y5⟩ := six_row R1.out; obtain ⟨e0, e1, e2, e3, e4⟩ := HLD.out _ B1.out; clear hb1 HS)
        | (go_at_call 22; refine (HN _).mono ?_; rintro r w2 ⟨rfl, hb2⟩; have R2 := Aside0.mk (row_keep hb2 R1.out); have B2 := Aside0.mk (B1.out.trans (hb2.mono B1.out.size)); obtain ⟨y0, y1, y2, y3, y4, y5⟩ := six_row R2.out; obtain ⟨e0, e1, e2, e3, e4⟩ := HLD.out _ B2.out; clear hb2 HN))
      refine wp_loop_rounds 2 ?_
      rw [rounds_succ]
      go_wp2_with (first
        | (go_at_call 45; refine (HE.out _ B2.out).mono ?_; rintro r w3 ⟨rfl, hb3⟩; have R3 := Aside0.mk (row_keep hb3 R2.out); have B3 := Aside0.mk (B2.out.trans (hb3.mono B2.out.size)); obtain ⟨y0, y1, y2, y3, y4, y5⟩ := six_row R3.out; obtain ⟨e0, e1, e2, e3, e4⟩ := HLD.out _ B3.out; clear hb3 HE))
      go_ret
      exact ⟨rfl, B3.out⟩
    | true =>
      go_enter Tryd.func24, Tryd.ntmps24
      go_wp2
      refine wp_loop_rounds 2 ?_
      rw [rounds_succ]
      go_wp2_with (first
        | (go_at_call 44; refine (HS _).mono ?_; rintro r w1 ⟨rfl, hb1⟩; have R1 := Aside0.mk (row_keep hb1 R0.out); have B1 := Aside0.mk (B0.out.trans (hb1.mono B0.out.size)); obtain ⟨y0, y1, y2, y3, y4, y5⟩ := six_row R1.out; obtain ⟨e0, e1, e2, e3, e4⟩ := HLD.out _ B1.out; clear hb1 HS)
        | (go_at_call 22; refine (HN _).mono ?_; rintro r w2 ⟨rfl, hb2⟩; have R2 := Aside0.mk (row_keep hb2 R1.out); have B2 := Aside0.mk (B1.out.trans (hb2.mono B1.out.size)); obtain ⟨y0, y1, y2, y3, y4, y5⟩ := six_row R2.out; obtain ⟨e0, e1, e2, e3, e4⟩ := HLD.out _ B2.out; clear hb2 HN))
      refine wp_loop_rounds 2 ?_
      rw [rounds_succ]
      go_wp2_with (first
        | (go_at_call 45; refine (HE.out _ B2.out).mono ?_; rintro r w3 ⟨rfl, hb3⟩; have R3 := Aside0.mk (row_keep hb3 R2.out); have B3 := Aside0.mk (B2.out.trans (hb3.mono B2.out.size)); obtain ⟨y0, y1, y2, y3, y4, y5⟩ := six_row R3.out; obtain ⟨e0, e1, e2, e3, e4⟩ := HLD.out _ B3.out; clear hb3 HE))
      rw [rounds_succ]
      go_wp2_with (first
        | (go_at_call 24; refine (HT1.out _ B3.out).mono ?_; rintro r w4 ⟨rfl, hb4⟩; have R4 := Aside0.mk (row_keep hb4 R3.out); have B4 := Aside0.mk (B3.out.trans (hb4.mono B3.out.size)); obtain ⟨y0, y1, y2, y3, y4, y5⟩ := six_row R4.out; obtain ⟨e0, e1, e2, e3, e4⟩ := HLD.out _ B4.out; clear hb4 HT1)
        | (go_at_call 24; refine (HO1.out _ B4.out).mono ?_; rintro r w5 ⟨rfl, hb5⟩; have R5 := Aside0.mk (row_keep hb5 R4.out); have B5 := Aside0.mk (B4.out.trans (hb5.mono B4.out.size)); obtain ⟨y0, y1, y2, y3, y4, y5⟩ := six_row R5.out; obtain ⟨e0, e1, e2, e3, e4⟩ := HLD.out _ B5.out; clear hb5 HO1))
      rw [rounds_succ]
      go_wp2
      go_ret
      exact ⟨rfl, B5.out⟩
set_option maxHeartbeats 4000000 in
set_option maxRecDepth 100000 in
theorem rs_whil (b : Bl) (hBB : rS b) : rS (.whil b) := by
  intro m w A c h0 h1 hC
  have hu24 := Tryd.underlying24
  have hu27 := Tryd.underlying27
  obtain ⟨ad, cs, rfl, hK, hld⟩ := stmt_at hC 0 (.whil b) rfl
  obtain ⟨A3, c3, A4, c4, A5, c5, rfl, hc3, hC3, hc4, hC4, hc5, hC5⟩ := kS_open hK
  obtain ⟨ad2, ecs, rfl, hKe, hle⟩ := parts_at hC3 0 (Ex.num 0) rfl
  obtain ⟨A2, c2, rfl, _⟩ := kE_open hKe
  have hsix : Six ad (.int .i64 5) (.int .i64 0) (.string ⟨#[]⟩) (.slice (some ad2) 1 c3) (.slice A4 b.lst.length c4) (.slice A5 0 c5) w := six_at (hld w (Below.refl _ w))
  obtain ⟨s0, s1, s2, s3, s4, s5⟩ := hsix
  have HLD : Aside0 (∀ w1, Below w.heap.size w w1 → Five ad2 (.int .i64 (Ex.num 0).kind) (.int .i64 (Ex.num 0).op) (.int .i64 (Ex.num 0).n) (.string (Ex.num 0).nm) (.slice A2 (Ex.num 0).args.length c2) w1) := ⟨fun w1 h => five_at (hle w1 h)⟩
  have HS := fun w => rshape 5 false false 1 true false (by kernel_rfl) w
  have HN := fun w => rname_nil w
  have HE : Aside0 (∀ w', Below w.heap.size w w' → Calls Tryd.prog 45 #[.agg #[.int .i64 (Ex.num 0).kind, .int .i64 (Ex.num 0).op, .int .i64 (Ex.num 0).n, .string (Ex.num 0).nm, .slice A2 (Ex.num 0).args.length c2], .int .i64 100] w' fun r w'' => r = .returned (.bool ((Ex.num 0).fits 100)) ∧ Below w'.heap.size w' w'') := ⟨fun w' hb => re_calls (Ex.num 0) 100 w' _ (by omega) (by omega) (kE.K_below hb hKe)⟩
  have HT : Aside0 (1 ≤ m → ∀ w', Below w.heap.size w w' → Calls Tryd.prog 24 #[.slice A4 b.lst.length c4, .int .i64 (m - 1)] w' fun r w'' => r = .returned (.bool (b.fits (m - 1))) ∧ Below w'.heap.size w' w'') := ⟨fun h w' hb => hBB (m - 1) w' A4 c4 (by omega) (by omega) (Kd.C_below hC4 hb)⟩
  have HO : Aside0 (1 ≤ m → ∀ w', Below w.heap.size w w' → Calls Tryd.prog 24 #[.slice A5 0 c5, .int .i64 (m - 1)] w' fun r w'' => r = .returned (.bool (true)) ∧ Below w'.heap.size w' w'') := ⟨fun h w' hb => rs_nil (m - 1) w' A5 c5 (by omega) (by omega) (Kd.C_below hC5 hb)⟩
  have hf : Bl.fits (.whil b) m = (decide (1 ≤ m) && b.fits (m - 1)) := rfl
  rw [hf]
  clear hK hld hc3 hC3 hKe hle hc4 hC4 hc5 hC5 hC hf hBB
  show Calls Tryd.prog 24 #[.slice (some ad) 1 c, .int .i64 m] w _
  have hw1 : wrap64 (m - 1) = m - 1 := by unfold wrap64; omega
  have hq : (Ex.num 0).fits 100 = true := rfl
  rw [hq] at HE
  clear hq
  generalize (Ex.num 0).kind = K at *; generalize (Ex.num 0).op = O at *; generalize (Ex.num 0).n = N at *; generalize (Ex.num 0).nm = S at *; generalize (Ex.num 0).args.length = L at *
  generalize b.fits (m - 1) = q at *; generalize b.lst.length = LB at *
  have B0 : Aside0 (Below w.heap.size w (w.alloc (.cells #[.int .i64 5, .int .i64 0, .string ⟨#[]⟩, .slice (some ad2) 1 c3, .slice A4 LB c4, .slice A5 0 c5] 27))) := ⟨(Below.refl _ w).alloc (Nat.le_refl _) _⟩
  have R0 : Aside0 ((w.alloc (.cells #[.int .i64 5, .int .i64 0, .string ⟨#[]⟩, .slice (some ad2) 1 c3, .slice A4 LB c4, .slice A5 0 c5] 27)).heap[w.heap.size]? = some (.cells #[.int .i64 5, .int .i64 0, .string ⟨#[]⟩, .slice (some ad2) 1 c3, .slice A4 LB c4, .slice A5 0 c5] 27 (0, 0))) := ⟨heap_alloc_new w _⟩
  by_cases hm : m < 1
  · rw [decide_eq_false (by omega), Bool.false_and]
    clear HE HT HO hw1
    go_enter Tryd.func24, Tryd.ntmps24
    go_wp2
    refine wp_loop_rounds 2 ?_
    rw [rounds_succ]
    go_wp2_with (first
      | (go_at_call 44; refine (HS _).mono ?_; rintro r w1 ⟨rfl, hb1⟩; have R1 := Aside0.mk (row_keep hb1 R0.out); have B1 := Aside0.mk (B0.out.trans (hb1.mono B0.out.size)); obtain ⟨y0, y1, y2, y3, y4, y5⟩ := six_row R1.out; obtain ⟨e0, e1, e2, e3, e4⟩ := HLD.out _ B1.out; clear hb1))
    go_ret
    exact ⟨rfl, B1.out⟩
  · have hm1 : 1 ≤ m := by omega
    rw [decide_eq_true hm1, Bool.true_and]
    have HT1 := Aside0.mk (HT.out hm1); have HO1 := Aside0.mk (HO.out hm1)
    clear HT HO
    cases q with
    | false =>
      go_enter Tryd.func24, Tryd.ntmps24
      go_wp2
      refine wp_loop_rounds 2 ?_
      rw [rounds_succ]
      go_wp2_with (first
        | (go_at_call 44; refine (HS _).mono ?_; rintro r w1 ⟨rfl, hb1⟩; have R1 := Aside0.mk (row_keep hb1 R0.out); have B1 := Aside0.mk (B0.out.trans (hb1.mono B0.out.size)); obtain ⟨y0, y1, y2, y3, y4, y5⟩ := six_row R1.out; obtain ⟨e0, e1, e2, e3, e4⟩ := HLD.out _ B1.out; clear hb1 HS)
        | (go_at_call 22; refine (HN _).mono ?_; rintro r w2 ⟨rfl, hb2⟩; have R2 := Aside0.mk (row_keep hb2 R1.out); have B2 := Aside0.mk (B1.out.trans (hb2.mono B1.out.size)); obtain ⟨y0, y1, y2, y3, y4, y5⟩ := six_row R2.out; obtain ⟨e0, e1, e2, e3, e4⟩ := HLD.out _ B2.out; clear hb2 HN))
      refine wp_loop_rounds 2 ?_
      rw [rounds_succ]
      go_wp2_with (first
        | (go_at_call 45; refine (HE.out _ B2.out).mono ?_; rintro r w3 ⟨rfl, hb3⟩; have R3 := Aside0.mk (row_keep hb3 R2.out); have B3 := Aside0.mk (B2.out.trans (hb3.mono B2.out.size)); obtain ⟨y0, y1, y2, y3, y4, y5⟩ := six_row R3.out; obtain ⟨e0, e1, e2, e3, e4⟩ := HLD.out _ B3.out; clear hb3 HE))
      rw [rounds_succ]
      go_wp2_with (first
        | (go_at_call 24; refine (HT1.out _ B3.out).mono ?_; rintro r w4 ⟨rfl, hb4⟩; have R4 := Aside0.mk (row_keep hb4 R3.out); have B4 := Aside0.mk (B3.out.trans (hb4.mono B3.out.size)); obtain ⟨y0, y1, y2, y3, y4, y5⟩ := six_row R4.out; obtain ⟨e0, e1, e2, e3, e4⟩ := HLD.out _ B4.out; clear hb4 HT1))
      go_ret
      exact ⟨rfl, B4.out⟩
    | true =>
      go_enter Tryd.func24, Tryd.ntmps24
      go_wp2
      refine wp_loop_rounds 2 ?_
      rw [rounds_succ]
      go_wp2_with (first
        | (go_at_call 44; refine (HS _).mono ?_; rintro r w1 ⟨rfl, hb1⟩; have R1 := Aside0.mk (row_keep hb1 R0.out); have B1 := Aside0.mk (B0.out.trans (hb1.mono B0.out.size)); obtain ⟨y0, y1, y2, y3, y4, y5⟩ := six_row R1.out; obtain ⟨e0, e1, e2, e3, e4⟩ := HLD.out _ B1.out; clear hb1 HS)
        | (go_at_call 22; refine (HN _).mono ?_; rintro r w2 ⟨rfl, hb2⟩; have R2 := Aside0.mk (row_keep hb2 R1.out); have B2 := Aside0.mk (B1.out.trans (hb2.mono B1.out.size)); obtain ⟨y0, y1, y2, y3, y4, y5⟩ := six_row R2.out; obtain ⟨e0, e1, e2, e3, e4⟩ := HLD.out _ B2.out; clear hb2 HN))
      refine wp_loop_rounds 2 ?_
      rw [rounds_succ]
      go_wp2_with (first
        | (go_at_call 45; refine (HE.out _ B2.out).mono ?_; rintro r w3 ⟨rfl, hb3⟩; have R3 := Aside0.mk (row_keep hb3 R2.out); have B3 := Aside0.mk (B2.out.trans (hb3.mono B2.out.size)); obtain ⟨y0, y1, y2, y3, y4, y5⟩ := six_row R3.out; obtain ⟨e0, e1, e2, e3, e4⟩ := HLD.out _ B3.out; clear hb3 HE))
      rw [rounds_succ]
      go_wp2_with (first
        | (go_at_call 24; refine (HT1.out _ B3.out).mono ?_; rintro r w4 ⟨rfl, hb4⟩; have R4 := Aside0.mk (row_keep hb4 R3.out); have B4 := Aside0.mk (B3.out.trans (hb4.mono B3.out.size)); obtain ⟨y0, y1, y2, y3, y4, y5⟩ := six_row R4.out; obtain ⟨e0, e1, e2, e3, e4⟩ := HLD.out _ B4.out; clear hb4 HT1)
        | (go_at_call 24; refine (HO1.out _ B4.out).mono ?_; rintro r w5 ⟨rfl, hb5⟩; have R5 := Aside0.mk (row_keep hb5 R4.out); have B5 := Aside0.mk (B4.out.trans (hb5.mono B4.out.size)); obtain ⟨y0, y1, y2, y3, y4, y5⟩ := six_row R5.out; obtain ⟨e0, e1, e2, e3, e4⟩ := HLD.out _ B5.out; clear hb5 HO1))
      rw [rounds_succ]
      go_wp2
      go_ret
      exact ⟨rfl, B5.out⟩
set_option maxHeartbeats 4000000 in
set_option maxRecDepth 100000 in
theorem rs_iff (b : Bl) (hBB : rS b) : rS (.iff b) := by
  intro m w A c h0 h1 hC
  have hu24 := Tryd.underlying24
  have hu27 := Tryd.underlying27
  obtain ⟨ad, cs, rfl, hK, hld⟩ := stmt_at hC 0 (.iff b) rfl
  obtain ⟨A3, c3, A4, c4, A5, c5, rfl, hc3, hC3, hc4, hC4, hc5, hC5⟩ := kS_open hK
  obtain ⟨ad2, ecs, rfl, hKe, hle⟩ := parts_at hC3 0 (Ex.num 0) rfl
  obtain ⟨A2, c2, rfl, _⟩ := kE_open hKe
  have hsix : Six ad (.int .i64 4) (.int .i64 0) (.string ⟨#[]⟩) (.slice (some ad2) 1 c3) (.slice A4 0 c4) (.slice A5 b.lst.length c5) w := six_at (hld w (Below.refl _ w))
  obtain ⟨s0, s1, s2, s3, s4, s5⟩ := hsix
  have HLD : Aside0 (∀ w1, Below w.heap.size w w1 → Five ad2 (.int .i64 (Ex.num 0).kind) (.int .i64 (Ex.num 0).op) (.int .i64 (Ex.num 0).n) (.string (Ex.num 0).nm) (.slice A2 (Ex.num 0).args.length c2) w1) := ⟨fun w1 h => five_at (hle w1 h)⟩
  have HS := fun w => rshape 4 false false 1 true true (by kernel_rfl) w
  have HN := fun w => rname_nil w
  have HE : Aside0 (∀ w', Below w.heap.size w w' → Calls Tryd.prog 45 #[.agg #[.int .i64 (Ex.num 0).kind, .int .i64 (Ex.num 0).op, .int .i64 (Ex.num 0).n, .string (Ex.num 0).nm, .slice A2 (Ex.num 0).args.length c2], .int .i64 100] w' fun r w'' => r = .returned (.bool ((Ex.num 0).fits 100)) ∧ Below w'.heap.size w' w'') := ⟨fun w' hb => re_calls (Ex.num 0) 100 w' _ (by omega) (by omega) (kE.K_below hb hKe)⟩
  have HT : Aside0 (1 ≤ m → ∀ w', Below w.heap.size w w' → Calls Tryd.prog 24 #[.slice A4 0 c4, .int .i64 (m - 1)] w' fun r w'' => r = .returned (.bool (true)) ∧ Below w'.heap.size w' w'') := ⟨fun h w' hb => rs_nil (m - 1) w' A4 c4 (by omega) (by omega) (Kd.C_below hC4 hb)⟩
  have HO : Aside0 (1 ≤ m → ∀ w', Below w.heap.size w w' → Calls Tryd.prog 24 #[.slice A5 b.lst.length c5, .int .i64 (m - 1)] w' fun r w'' => r = .returned (.bool (b.fits (m - 1))) ∧ Below w'.heap.size w' w'') := ⟨fun h w' hb => hBB (m - 1) w' A5 c5 (by omega) (by omega) (Kd.C_below hC5 hb)⟩
  have hf : Bl.fits (.iff b) m = (decide (1 ≤ m) && b.fits (m - 1)) := rfl
  rw [hf]
  clear hK hld hc3 hC3 hKe hle hc4 hC4 hc5 hC5 hC hf hBB
  show Calls Tryd.prog 24 #[.slice (some ad) 1 c, .int .i64 m] w _
  have hw1 : wrap64 (m - 1) = m - 1 := by unfold wrap64; omega
  have hq : (Ex.num 0).fits 100 = true := rfl
  rw [hq] at HE
  clear hq
  generalize (Ex.num 0).kind = K at *; generalize (Ex.num 0).op = O at *; generalize (Ex.num 0).n = N at *; generalize (Ex.num 0).nm = S at *; generalize (Ex.num 0).args.length = L at *
  generalize b.fits (m - 1) = q at *; generalize b.lst.length = LB at *
  have B0 : Aside0 (Below w.heap.size w (w.alloc (.cells #[.int .i64 4, .int .i64 0, .string ⟨#[]⟩, .slice (some ad2) 1 c3, .slice A4 0 c4, .slice A5 LB c5] 27))) := ⟨(Below.refl _ w).alloc (Nat.le_refl _) _⟩
  have R0 : Aside0 ((w.alloc (.cells #[.int .i64 4, .int .i64 0, .string ⟨#[]⟩, .slice (some ad2) 1 c3, .slice A4 0 c4, .slice A5 LB c5] 27)).heap[w.heap.size]? = some (.cells #[.int .i64 4, .int .i64 0, .string ⟨#[]⟩, .slice (some ad2) 1 c3, .slice A4 0 c4, .slice A5 LB c5] 27 (0, 0))) := ⟨heap_alloc_new w _⟩
  by_cases hm : m < 1
  · rw [decide_eq_false (by omega), Bool.false_and]
    clear HE HT HO hw1
    go_enter Tryd.func24, Tryd.ntmps24
    go_wp2
    refine wp_loop_rounds 2 ?_
    rw [rounds_succ]
    go_wp2_with (first
      | (go_at_call 44; refine (HS _).mono ?_; rintro r w1 ⟨rfl, hb1⟩; have R1 := Aside0.mk (row_keep hb1 R0.out); have B1 := Aside0.mk (B0.out.trans (hb1.mono B0.out.size)); obtain ⟨y0, y1, y2, y3, y4, y5⟩ := six_row R1.out; obtain ⟨e0, e1, e2, e3, e4⟩ := HLD.out _ B1.out; clear hb1))
    go_ret
    exact ⟨rfl, B1.out⟩
  · have hm1 : 1 ≤ m := by omega
    rw [decide_eq_true hm1, Bool.true_and]
    have HT1 := Aside0.mk (HT.out hm1); have HO1 := Aside0.mk (HO.out hm1)
    clear HT HO
    cases q with
    | false =>
      go_enter Tryd.func24, Tryd.ntmps24
      go_wp2
      refine wp_loop_rounds 2 ?_
      rw [rounds_succ]
      go_wp2_with (first
        | (go_at_call 44; refine (HS _).mono ?_; rintro r w1 ⟨rfl, hb1⟩; have R1 := Aside0.mk (row_keep hb1 R0.out); have B1 := Aside0.mk (B0.out.trans (hb1.mono B0.out.size)); obtain ⟨y0, y1, y2, y3, y4, y5⟩ := six_row R1.out; obtain ⟨e0, e1, e2, e3, e4⟩ := HLD.out _ B1.out; clear hb1 HS)
        | (go_at_call 22; refine (HN _).mono ?_; rintro r w2 ⟨rfl, hb2⟩; have R2 := Aside0.mk (row_keep hb2 R1.out); have B2 := Aside0.mk (B1.out.trans (hb2.mono B1.out.size)); obtain ⟨y0, y1, y2, y3, y4, y5⟩ := six_row R2.out; obtain ⟨e0, e1, e2, e3, e4⟩ := HLD.out _ B2.out; clear hb2 HN))
      refine wp_loop_rounds 2 ?_
      rw [rounds_succ]
      go_wp2_with (first
        | (go_at_call 45; refine (HE.out _ B2.out).mono ?_; rintro r w3 ⟨rfl, hb3⟩; have R3 := Aside0.mk (row_keep hb3 R2.out); have B3 := Aside0.mk (B2.out.trans (hb3.mono B2.out.size)); obtain ⟨y0, y1, y2, y3, y4, y5⟩ := six_row R3.out; obtain ⟨e0, e1, e2, e3, e4⟩ := HLD.out _ B3.out; clear hb3 HE))
      rw [rounds_succ]
      go_wp2_with (first
        | (go_at_call 24; refine (HT1.out _ B3.out).mono ?_; rintro r w4 ⟨rfl, hb4⟩; have R4 := Aside0.mk (row_keep hb4 R3.out); have B4 := Aside0.mk (B3.out.trans (hb4.mono B3.out.size)); obtain ⟨y0, y1, y2, y3, y4, y5⟩ := six_row R4.out; obtain ⟨e0, e1, e2, e3, e4⟩ := HLD.out _ B4.out; clear hb4 HT1)
        | (go_at_call 24; refine (HO1.out _ B4.out).mono ?_; rintro r w5 ⟨rfl, hb5⟩; have R5 := Aside0.mk (row_keep hb5 R4.out); have B5 := Aside0.mk (B4.out.trans (hb5.mono B4.out.size)); obtain ⟨y0, y1, y2, y3, y4, y5⟩ := six_row R5.out; obtain ⟨e0, e1, e2, e3, e4⟩ := HLD.out _ B5.out; clear hb5 HO1))
      go_ret
      exact ⟨rfl, B5.out⟩
    | true =>
      go_enter Tryd.func24, Tryd.ntmps24
      go_wp2
      refine wp_loop_rounds 2 ?_
      rw [rounds_succ]
      go_wp2_with (first
        | (go_at_call 44; refine (HS _).mono ?_; rintro r w1 ⟨rfl, hb1⟩; have R1 := Aside0.mk (row_keep hb1 R0.out); have B1 := Aside0.mk (B0.out.trans (hb1.mono B0.out.size)); obtain ⟨y0, y1, y2, y3, y4, y5⟩ := six_row R1.out; obtain ⟨e0, e1, e2, e3, e4⟩ := HLD.out _ B1.out; clear hb1 HS)
        | (go_at_call 22; refine (HN _).mono ?_; rintro r w2 ⟨rfl, hb2⟩; have R2 := Aside0.mk (row_keep hb2 R1.out); have B2 := Aside0.mk (B1.out.trans (hb2.mono B1.out.size)); obtain ⟨y0, y1, y2, y3, y4, y5⟩ := six_row R2.out; obtain ⟨e0, e1, e2, e3, e4⟩ := HLD.out _ B2.out; clear hb2 HN))
      refine wp_loop_rounds 2 ?_
      rw [rounds_succ]
      go_wp2_with (first
        | (go_at_call 45; refine (HE.out _ B2.out).mono ?_; rintro r w3 ⟨rfl, hb3⟩; have R3 := Aside0.mk (row_keep hb3 R2.out); have B3 := Aside0.mk (B2.out.trans (hb3.mono B2.out.size)); obtain ⟨y0, y1, y2, y3, y4, y5⟩ := six_row R3.out; obtain ⟨e0, e1, e2, e3, e4⟩ := HLD.out _ B3.out; clear hb3 HE))
      rw [rounds_succ]
      go_wp2_with (first
        | (go_at_call 24; refine (HT1.out _ B3.out).mono ?_; rintro r w4 ⟨rfl, hb4⟩; have R4 := Aside0.mk (row_keep hb4 R3.out); have B4 := Aside0.mk (B3.out.trans (hb4.mono B3.out.size)); obtain ⟨y0, y1, y2, y3, y4, y5⟩ := six_row R4.out; obtain ⟨e0, e1, e2, e3, e4⟩ := HLD.out _ B4.out; clear hb4 HT1)
        | (go_at_call 24; refine (HO1.out _ B4.out).mono ?_; rintro r w5 ⟨rfl, hb5⟩; have R5 := Aside0.mk (row_keep hb5 R4.out); have B5 := Aside0.mk (B4.out.trans (hb5.mono B4.out.size)); obtain ⟨y0, y1, y2, y3, y4, y5⟩ := six_row R5.out; obtain ⟨e0, e1, e2, e3, e4⟩ := HLD.out _ B5.out; clear hb5 HO1))
      rw [rounds_succ]
      go_wp2
      go_ret
      exact ⟨rfl, B5.out⟩
theorem rs_calls : ∀ b, rS b
  | .nil => rs_nil
  | .set e => rs_set e
  | .ret e => rs_ret e
  | .whil b => rs_whil b (rs_calls b)
  | .iff b => rs_iff b (rs_calls b)
end Go.Proofs.YtijpghipfopplaaDoor.PDe
