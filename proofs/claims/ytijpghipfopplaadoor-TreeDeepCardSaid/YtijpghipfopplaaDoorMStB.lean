/- tree.stmt where no depth is left. tree.stmt behind its first statement, at each kind that occurs (printed by ch03-stmt.py). tree.stmt: its first statement, and what is behind it. tree.stmt and tree.stmts at all the statements that occur: they answer by the depth. tree.function at the functions that occur. tree.Right at the programs that occur: no arrays, one function. -/
import Derived.Test.YtijpghipfopplaaDoorMStA
set_option linter.unusedVariables false
set_option linter.unusedSimpArgs false
namespace Go.Proofs.YtijpghipfopplaaDoor.PDe
open Go.RowKit Go.Proofs.YtijpghipfopplaaDoorW.PrintWords Go.Proofs.YtijpghipfopplaaDoor.Gen
set_option maxHeartbeats 4000000 in
set_option maxRecDepth 100000 in
theorem stmt_low (K : Int) (i : Nat) (n : Bool) (a : Nat) (th ot : Bool) (hs : Instr.findNow (.int .i64) (.int .i64 K) shapeEs 0 = some (some (i, shapeV false n a th ot))) (S : ByteArray) (A3 : Option Addr) (L3 c3 : Nat) (A4 : Option Addr) (L4 c4 : Nat) (A5 : Option Addr) (L5 c5 : Nat) (m : Int) (hm : m < 1) (w : World) :
    Calls Tryd.prog 62 #[.agg #[.int .i64 K, .int .i64 0, .string S, .slice A3 L3 c3, .slice A4 L4 c4, .slice A5 L5 c5], .int .i64 m] w fun e w' => e = .returned (.bool false) ∧ Below w.heap.size w w' := by
  have hu27 := Tryd.underlying27
  have HS := Aside0.mk hs
  clear hs
  have g1 : decide (m < 1) = true := decide_eq_true hm
  go_enter Tryd.func62, Tryd.ntmps62
  go_wp2
  obtain ⟨W, hW⟩ : ∃ W, W = w.alloc (.cells #[.int .i64 K, .int .i64 0, .string S, .slice A3 L3 c3, .slice A4 L4 c4, .slice A5 L5 c5] 27) := ⟨_, rfl⟩
  have f0 : W.cell? ⟨w.heap.size, 0, none⟩ = some (.int .i64 K) := by rw [hW]; simp
  rw [← hW]
  have HW := Aside0.mk hW
  have HWB : Below w.heap.size w W := by rw [hW]; exact (Below.refl _ w).alloc (Nat.le_refl _) _
  clear hW
  have hne := World.new_ne W _ f0
  have hlt : w.heap.size < W.heap.size := block_lt_of_cell f0
  go_region_held3 (fun w' => w'.cell? ⟨w.heap.size, 0, none⟩ = some (.int .i64 K)) (go_keep)
    (first
      | (go_at_call 74; with_reducible refine (shapes_after W _ _ _ _ _ _).mono ?_; rintro e w1 ⟨⟨b, rfl, hb, hb0, hb1⟩, ⟨x0, x1, x2, x3, x4⟩, ⟨z0, z1, z2, z3, z4⟩⟩; have hB : Below w.heap.size w w1 := ((HWB.alloc (by omega) _).drew).trans (hb1.mono (by omega)); have f1 : w1.cell? ⟨w.heap.size, 0, none⟩ = some (.int .i64 K) := (hb1.cell (p := ⟨w.heap.size, 0, none⟩) (by simp; omega)).trans (by go_keep); obtain ⟨k1, k2, k3, k4, k5, k6⟩ := looks (v := .agg #[.bool false, .bool n, .int .i64 a, .bool th, .bool ot]) hb HS.out)
      | (go_at_call 74; refine (shapes_calls _).mono ?_; rintro e w1 ⟨b, rfl, hb, hb0, hb1⟩; have hB : Below w.heap.size w w1 := (HWB.drew).trans (hb1.mono (by simp; omega)); have f1 : w1.cell? ⟨w.heap.size, 0, none⟩ = some (.int .i64 K) := (hb1.cell (p := ⟨w.heap.size, 0, none⟩) (by simp; omega)).trans (by go_keep); obtain ⟨k1, k2, k3, k4, k5, k6⟩ := looks (v := .agg #[.bool false, .bool n, .int .i64 a, .bool th, .bool ot]) hb HS.out))
  all_goals go_wp2
  all_goals go_ret
  all_goals refine ⟨rfl, ?_⟩
  all_goals have hBs := hB.size
  all_goals repeat first
    | exact hB
    | refine Below.drew ?_
    | refine Below.alloc ?_ hBs _
    | refine Below.setCell ?_ (by show _ ≤ W.heap.size; omega) _
end Go.Proofs.YtijpghipfopplaaDoor.PDe
namespace Go.Proofs.YtijpghipfopplaaDoor.PDe
open Go.RowKit Go.Proofs.YtijpghipfopplaaDoorW.PrintWords Go.Proofs.YtijpghipfopplaaDoor.Gen

set_option maxHeartbeats 4000000 in
set_option maxRecDepth 100000 in
theorem rest_set (w Wn : World) (H : Nat) (S : ByteArray) (A3 : Option Addr) (c3 : Nat) (A4 : Option Addr) (c4 : Nat) (A5 : Option Addr) (c5 : Nat) (m : Int) (hm : 1 ≤ m) (hm2 : m ≤ 1000) (u7 u8 u9 u10 u11 u12 u13 : Value) (qa qt qe : Bool)
    (HN : ∀ w, Calls Tryd.prog 17 #[.string S] w fun e w' => e = .returned (.bool true) ∧ Below w.heap.size w w')
    (HA : ∀ w', Below w.heap.size w w' → Calls Tryd.prog 75 #[.slice A3 1 c3, .func (.func 76) #[] #[]] w' fun e w'' => e = .returned (.bool qa) ∧ Below w'.heap.size w' w'')
    (HT : ∀ w', Below w.heap.size w w' → Calls Tryd.prog 40 #[.slice A4 0 c4, .int .i64 (m - 1)] w' fun e w'' => e = .returned (.bool qt) ∧ Below w'.heap.size w' w'')
    (HE : ∀ w', Below w.heap.size w w' → Calls Tryd.prog 40 #[.slice A5 0 c5, .int .i64 (m - 1)] w' fun e w'' => e = .returned (.bool qe) ∧ Below w'.heap.size w' w'')
    (R : Rows2 w.heap.size H (.int .i64 2) (.int .i64 0) (.string S) (.slice A3 1 c3) (.slice A4 0 c4) (.slice A5 0 c5) (.bool false) (.bool true) (.int .i64 1) (.bool false) (.bool false) w Wn) :
    Code.wp Tryd.prog rest62 (bodyPost Tryd.prog Tryd.f62 fun e w' => e = .returned (.bool (!qa && qt && qe)) ∧ Below w.heap.size w w')
      { tmps := #[.agg #[.int .i64 2, .int .i64 0, .string S, .slice A3 1 c3, .slice A4 0 c4, .slice A5 0 c5], .int .i64 m, .pointer (some ⟨w.heap.size, 0, none⟩), undef, .bool false, .pointer (some ⟨H, 0, none⟩), .bool true, u7, u8, u9, u10, u11, u12, u13] ++ Array.replicate 104 undef, defers := [] } Wn := by
  have hu24 := Tryd.underlying24
  have hu27 := Tryd.underlying27
  have HR := Aside0.mk R
  have R1 := R
  obtain ⟨s0, s1, s2, s3, s4, s5, h0, h1, h2, h3, h4, bl⟩ := R
  have m1 : decide (m < 1) = false := decide_eq_false (by omega)
  have HW : wrap64 (m - 1) = m - 1 := by unfold wrap64; omega
  change Code.wp Tryd.prog (Code.seq _ (Code.seq _ _)) _ _ _
  simp only [Array.replicate_succ, Array.replicate_zero, List.push_toArray, List.append_toArray, List.nil_append, List.cons_append]
  cases qa with
  | true =>
    go_wp2_with (first
        | (go_at_call 17; refine (HN _).mono ?_; rintro e w1 ⟨rfl, hb1⟩; have R1 := HR.out.keep hb1; have RR := R1; obtain ⟨s0, s1, s2, s3, s4, s5, h0, h1, h2, h3, h4, bl1⟩ := RR)
        | (go_at_call 75; refine (HA _ R1.bl).mono ?_; rintro e w2 ⟨rfl, hb2⟩; have R2 := R1.keep hb2; have RR := R2; obtain ⟨s0, s1, s2, s3, s4, s5, h0, h1, h2, h3, h4, bl2⟩ := RR))
    go_ret
    exact ⟨by simp, bl2⟩
  | false =>
    cases qt with
    | false =>
      go_wp2_with (first
          | (go_at_call 17; refine (HN _).mono ?_; rintro e w1 ⟨rfl, hb1⟩; have R1 := HR.out.keep hb1; have RR := R1; obtain ⟨s0, s1, s2, s3, s4, s5, h0, h1, h2, h3, h4, bl1⟩ := RR)
          | (go_at_call 75; refine (HA _ R1.bl).mono ?_; rintro e w2 ⟨rfl, hb2⟩; have R2 := R1.keep hb2; have RR := R2; obtain ⟨s0, s1, s2, s3, s4, s5, h0, h1, h2, h3, h4, bl2⟩ := RR)
          | (go_at_call 40; with_reducible refine (HT _ R2.bl).mono ?_; rintro e w3 ⟨rfl, hb3⟩; have R3 := R2.keep hb3; have RR := R3; obtain ⟨s0, s1, s2, s3, s4, s5, h0, h1, h2, h3, h4, bl3⟩ := RR))
      go_ret
      exact ⟨by simp, bl3⟩
    | true =>
      go_wp2_with (first
          | (go_at_call 17; refine (HN _).mono ?_; rintro e w1 ⟨rfl, hb1⟩; have R1 := HR.out.keep hb1; have RR := R1; obtain ⟨s0, s1, s2, s3, s4, s5, h0, h1, h2, h3, h4, bl1⟩ := RR)
          | (go_at_call 75; refine (HA _ R1.bl).mono ?_; rintro e w2 ⟨rfl, hb2⟩; have R2 := R1.keep hb2; have RR := R2; obtain ⟨s0, s1, s2, s3, s4, s5, h0, h1, h2, h3, h4, bl2⟩ := RR)
          | (go_at_call 40; with_reducible refine (HT _ R2.bl).mono ?_; rintro e w3 ⟨rfl, hb3⟩; have R3 := R2.keep hb3; have RR := R3; obtain ⟨s0, s1, s2, s3, s4, s5, h0, h1, h2, h3, h4, bl3⟩ := RR)
          | (go_at_call 40; with_reducible refine (HE _ R3.bl).mono ?_; rintro e w4 ⟨rfl, hb4⟩))
      go_ret
      exact ⟨by simp, bl3.trans (hb4.mono bl3.size)⟩
set_option maxHeartbeats 4000000 in
set_option maxRecDepth 100000 in
theorem rest_ret (w Wn : World) (H : Nat) (A3 : Option Addr) (c3 : Nat) (A4 : Option Addr) (c4 : Nat) (A5 : Option Addr) (c5 : Nat) (m : Int) (hm : 1 ≤ m) (hm2 : m ≤ 1000) (u7 u8 u9 u10 u11 u12 u13 : Value) (qa qt qe : Bool)
    (HA : ∀ w', Below w.heap.size w w' → Calls Tryd.prog 75 #[.slice A3 1 c3, .func (.func 76) #[] #[]] w' fun e w'' => e = .returned (.bool qa) ∧ Below w'.heap.size w' w'')
    (HT : ∀ w', Below w.heap.size w w' → Calls Tryd.prog 40 #[.slice A4 0 c4, .int .i64 (m - 1)] w' fun e w'' => e = .returned (.bool qt) ∧ Below w'.heap.size w' w'')
    (HE : ∀ w', Below w.heap.size w w' → Calls Tryd.prog 40 #[.slice A5 0 c5, .int .i64 (m - 1)] w' fun e w'' => e = .returned (.bool qe) ∧ Below w'.heap.size w' w'')
    (R : Rows2 w.heap.size H (.int .i64 8) (.int .i64 0) (.string ⟨#[]⟩) (.slice A3 1 c3) (.slice A4 0 c4) (.slice A5 0 c5) (.bool false) (.bool false) (.int .i64 1) (.bool false) (.bool false) w Wn) :
    Code.wp Tryd.prog rest62 (bodyPost Tryd.prog Tryd.f62 fun e w' => e = .returned (.bool (!qa && qt && qe)) ∧ Below w.heap.size w w')
      { tmps := #[.agg #[.int .i64 8, .int .i64 0, .string ⟨#[]⟩, .slice A3 1 c3, .slice A4 0 c4, .slice A5 0 c5], .int .i64 m, .pointer (some ⟨w.heap.size, 0, none⟩), undef, .bool false, .pointer (some ⟨H, 0, none⟩), .bool true, u7, u8, u9, u10, u11, u12, u13] ++ Array.replicate 104 undef, defers := [] } Wn := by
  have hu24 := Tryd.underlying24
  have hu27 := Tryd.underlying27
  have HR := Aside0.mk R
  have R1 := R
  obtain ⟨s0, s1, s2, s3, s4, s5, h0, h1, h2, h3, h4, bl⟩ := R
  have m1 : decide (m < 1) = false := decide_eq_false (by omega)
  have HW : wrap64 (m - 1) = m - 1 := by unfold wrap64; omega
  change Code.wp Tryd.prog (Code.seq _ (Code.seq _ _)) _ _ _
  simp only [Array.replicate_succ, Array.replicate_zero, List.push_toArray, List.append_toArray, List.nil_append, List.cons_append]
  cases qa with
  | true =>
    go_wp2_with (first
        | (go_at_call 75; refine (HA _ R1.bl).mono ?_; rintro e w2 ⟨rfl, hb2⟩; have R2 := R1.keep hb2; have RR := R2; obtain ⟨s0, s1, s2, s3, s4, s5, h0, h1, h2, h3, h4, bl2⟩ := RR))
    go_ret
    exact ⟨by simp, bl2⟩
  | false =>
    cases qt with
    | false =>
      go_wp2_with (first
          | (go_at_call 75; refine (HA _ R1.bl).mono ?_; rintro e w2 ⟨rfl, hb2⟩; have R2 := R1.keep hb2; have RR := R2; obtain ⟨s0, s1, s2, s3, s4, s5, h0, h1, h2, h3, h4, bl2⟩ := RR)
          | (go_at_call 40; with_reducible refine (HT _ R2.bl).mono ?_; rintro e w3 ⟨rfl, hb3⟩; have R3 := R2.keep hb3; have RR := R3; obtain ⟨s0, s1, s2, s3, s4, s5, h0, h1, h2, h3, h4, bl3⟩ := RR))
      go_ret
      exact ⟨by simp, bl3⟩
    | true =>
      go_wp2_with (first
          | (go_at_call 75; refine (HA _ R1.bl).mono ?_; rintro e w2 ⟨rfl, hb2⟩; have R2 := R1.keep hb2; have RR := R2; obtain ⟨s0, s1, s2, s3, s4, s5, h0, h1, h2, h3, h4, bl2⟩ := RR)
          | (go_at_call 40; with_reducible refine (HT _ R2.bl).mono ?_; rintro e w3 ⟨rfl, hb3⟩; have R3 := R2.keep hb3; have RR := R3; obtain ⟨s0, s1, s2, s3, s4, s5, h0, h1, h2, h3, h4, bl3⟩ := RR)
          | (go_at_call 40; with_reducible refine (HE _ R3.bl).mono ?_; rintro e w4 ⟨rfl, hb4⟩))
      go_ret
      exact ⟨by simp, bl3.trans (hb4.mono bl3.size)⟩
set_option maxHeartbeats 4000000 in
set_option maxRecDepth 100000 in
theorem rest_whil (w Wn : World) (H : Nat) (A3 : Option Addr) (c3 : Nat) (A4 : Option Addr) (L4 c4 : Nat) (A5 : Option Addr) (c5 : Nat) (m : Int) (hm : 1 ≤ m) (hm2 : m ≤ 1000) (u7 u8 u9 u10 u11 u12 u13 : Value) (qa qt qe : Bool)
    (HA : ∀ w', Below w.heap.size w w' → Calls Tryd.prog 75 #[.slice A3 1 c3, .func (.func 76) #[] #[]] w' fun e w'' => e = .returned (.bool qa) ∧ Below w'.heap.size w' w'')
    (HT : ∀ w', Below w.heap.size w w' → Calls Tryd.prog 40 #[.slice A4 L4 c4, .int .i64 (m - 1)] w' fun e w'' => e = .returned (.bool qt) ∧ Below w'.heap.size w' w'')
    (HE : ∀ w', Below w.heap.size w w' → Calls Tryd.prog 40 #[.slice A5 0 c5, .int .i64 (m - 1)] w' fun e w'' => e = .returned (.bool qe) ∧ Below w'.heap.size w' w'')
    (R : Rows2 w.heap.size H (.int .i64 5) (.int .i64 0) (.string ⟨#[]⟩) (.slice A3 1 c3) (.slice A4 L4 c4) (.slice A5 0 c5) (.bool false) (.bool false) (.int .i64 1) (.bool true) (.bool false) w Wn) :
    Code.wp Tryd.prog rest62 (bodyPost Tryd.prog Tryd.f62 fun e w' => e = .returned (.bool (!qa && qt && qe)) ∧ Below w.heap.size w w')
      { tmps := #[.agg #[.int .i64 5, .int .i64 0, .string ⟨#[]⟩, .slice A3 1 c3, .slice A4 L4 c4, .slice A5 0 c5], .int .i64 m, .pointer (some ⟨w.heap.size, 0, none⟩), undef, .bool false, .pointer (some ⟨H, 0, none⟩), .bool true, u7, u8, u9, u10, u11, u12, u13] ++ Array.replicate 104 undef, defers := [] } Wn := by
  have hu24 := Tryd.underlying24
  have hu27 := Tryd.underlying27
  have HR := Aside0.mk R
  have R1 := R
  obtain ⟨s0, s1, s2, s3, s4, s5, h0, h1, h2, h3, h4, bl⟩ := R
  have m1 : decide (m < 1) = false := decide_eq_false (by omega)
  have HW : wrap64 (m - 1) = m - 1 := by unfold wrap64; omega
  change Code.wp Tryd.prog (Code.seq _ (Code.seq _ _)) _ _ _
  simp only [Array.replicate_succ, Array.replicate_zero, List.push_toArray, List.append_toArray, List.nil_append, List.cons_append]
  cases qa with
  | true =>
    go_wp2_with (first
        | (go_at_call 75; refine (HA _ R1.bl).mono ?_; rintro e w2 ⟨rfl, hb2⟩; have R2 := R1.keep hb2; have RR := R2; obtain ⟨s0, s1, s2, s3, s4, s5, h0, h1, h2, h3, h4, bl2⟩ := RR))
    go_ret
    exact ⟨by simp, bl2⟩
  | false =>
    cases qt with
    | false =>
      go_wp2_with (first
          | (go_at_call 75; refine (HA _ R1.bl).mono ?_; rintro e w2 ⟨rfl, hb2⟩; have R2 := R1.keep hb2; have RR := R2; obtain ⟨s0, s1, s2, s3, s4, s5, h0, h1, h2, h3, h4, bl2⟩ := RR)
          | (go_at_call 40; with_reducible refine (HT _ R2.bl).mono ?_; rintro e w3 ⟨rfl, hb3⟩; have R3 := R2.keep hb3; have RR := R3; obtain ⟨s0, s1, s2, s3, s4, s5, h0, h1, h2, h3, h4, bl3⟩ := RR))
      go_ret
      exact ⟨by simp, bl3⟩
    | true =>
      go_wp2_with (first
          | (go_at_call 75; refine (HA _ R1.bl).mono ?_; rintro e w2 ⟨rfl, hb2⟩; have R2 := R1.keep hb2; have RR := R2; obtain ⟨s0, s1, s2, s3, s4, s5, h0, h1, h2, h3, h4, bl2⟩ := RR)
          | (go_at_call 40; with_reducible refine (HT _ R2.bl).mono ?_; rintro e w3 ⟨rfl, hb3⟩; have R3 := R2.keep hb3; have RR := R3; obtain ⟨s0, s1, s2, s3, s4, s5, h0, h1, h2, h3, h4, bl3⟩ := RR)
          | (go_at_call 40; with_reducible refine (HE _ R3.bl).mono ?_; rintro e w4 ⟨rfl, hb4⟩))
      go_ret
      exact ⟨by simp, bl3.trans (hb4.mono bl3.size)⟩
set_option maxHeartbeats 4000000 in
set_option maxRecDepth 100000 in
theorem rest_iff (w Wn : World) (H : Nat) (A3 : Option Addr) (c3 : Nat) (A4 : Option Addr) (c4 : Nat) (A5 : Option Addr) (L5 c5 : Nat) (m : Int) (hm : 1 ≤ m) (hm2 : m ≤ 1000) (u7 u8 u9 u10 u11 u12 u13 : Value) (qa qt qe : Bool)
    (HA : ∀ w', Below w.heap.size w w' → Calls Tryd.prog 75 #[.slice A3 1 c3, .func (.func 76) #[] #[]] w' fun e w'' => e = .returned (.bool qa) ∧ Below w'.heap.size w' w'')
    (HT : ∀ w', Below w.heap.size w w' → Calls Tryd.prog 40 #[.slice A4 0 c4, .int .i64 (m - 1)] w' fun e w'' => e = .returned (.bool qt) ∧ Below w'.heap.size w' w'')
    (HE : ∀ w', Below w.heap.size w w' → Calls Tryd.prog 40 #[.slice A5 L5 c5, .int .i64 (m - 1)] w' fun e w'' => e = .returned (.bool qe) ∧ Below w'.heap.size w' w'')
    (R : Rows2 w.heap.size H (.int .i64 4) (.int .i64 0) (.string ⟨#[]⟩) (.slice A3 1 c3) (.slice A4 0 c4) (.slice A5 L5 c5) (.bool false) (.bool false) (.int .i64 1) (.bool true) (.bool true) w Wn) :
    Code.wp Tryd.prog rest62 (bodyPost Tryd.prog Tryd.f62 fun e w' => e = .returned (.bool (!qa && qt && qe)) ∧ Below w.heap.size w w')
      { tmps := #[.agg #[.int .i64 4, .int .i64 0, .string ⟨#[]⟩, .slice A3 1 c3, .slice A4 0 c4, .slice A5 L5 c5], .int .i64 m, .pointer (some ⟨w.heap.size, 0, none⟩), undef, .bool false, .pointer (some ⟨H, 0, none⟩), .bool true, u7, u8, u9, u10, u11, u12, u13] ++ Array.replicate 104 undef, defers := [] } Wn := by
  have hu24 := Tryd.underlying24
  have hu27 := Tryd.underlying27
  have HR := Aside0.mk R
  have R1 := R
  obtain ⟨s0, s1, s2, s3, s4, s5, h0, h1, h2, h3, h4, bl⟩ := R
  have m1 : decide (m < 1) = false := decide_eq_false (by omega)
  have HW : wrap64 (m - 1) = m - 1 := by unfold wrap64; omega
  change Code.wp Tryd.prog (Code.seq _ (Code.seq _ _)) _ _ _
  simp only [Array.replicate_succ, Array.replicate_zero, List.push_toArray, List.append_toArray, List.nil_append, List.cons_append]
  cases qa with
  | true =>
    go_wp2_with (first
        | (go_at_call 75; refine (HA _ R1.bl).mono ?_; rintro e w2 ⟨rfl, hb2⟩; have R2 := R1.keep hb2; have RR := R2; obtain ⟨s0, s1, s2, s3, s4, s5, h0, h1, h2, h3, h4, bl2⟩ := RR))
    go_ret
    exact ⟨by simp, bl2⟩
  | false =>
    cases qt with
    | false =>
      go_wp2_with (first
          | (go_at_call 75; refine (HA _ R1.bl).mono ?_; rintro e w2 ⟨rfl, hb2⟩; have R2 := R1.keep hb2; have RR := R2; obtain ⟨s0, s1, s2, s3, s4, s5, h0, h1, h2, h3, h4, bl2⟩ := RR)
          | (go_at_call 40; with_reducible refine (HT _ R2.bl).mono ?_; rintro e w3 ⟨rfl, hb3⟩; have R3 := R2.keep hb3; have RR := R3; obtain ⟨s0, s1, s2, s3, s4, s5, h0, h1, h2, h3, h4, bl3⟩ := RR))
      go_ret
      exact ⟨by simp, bl3⟩
    | true =>
      go_wp2_with (first
          | (go_at_call 75; refine (HA _ R1.bl).mono ?_; rintro e w2 ⟨rfl, hb2⟩; have R2 := R1.keep hb2; have RR := R2; obtain ⟨s0, s1, s2, s3, s4, s5, h0, h1, h2, h3, h4, bl2⟩ := RR)
          | (go_at_call 40; with_reducible refine (HT _ R2.bl).mono ?_; rintro e w3 ⟨rfl, hb3⟩; have R3 := R2.keep hb3; have RR := R3; obtain ⟨s0, s1, s2, s3, s4, s5, h0, h1, h2, h3, h4, bl3⟩ := RR)
          | (go_at_call 40; with_reducible refine (HE _ R3.bl).mono ?_; rintro e w4 ⟨rfl, hb4⟩))
      go_ret
      exact ⟨by simp, bl3.trans (hb4.mono bl3.size)⟩
end Go.Proofs.YtijpghipfopplaaDoor.PDe
namespace Go.Proofs.YtijpghipfopplaaDoor.PDe
open Go.RowKit Go.Proofs.YtijpghipfopplaaDoorW.PrintWords Go.Proofs.YtijpghipfopplaaDoor.Gen

theorem cell_d {W : World} {p : Addr} {v : Value} (h : W.cell? p = some v) : W.drew.cell? p = some v := h
theorem cell_ad {W : World} {o : Obj} {p : Addr} {v : Value} (h : W.cell? p = some v) : (W.alloc o).drew.cell? p = some v := (World.cell?_alloc_some W p o (by rw [h]; rfl)).trans h
set_option maxHeartbeats 4000000 in
set_option maxRecDepth 100000 in
theorem stmt_high (K : Int) (i : Nat) (n : Bool) (a : Nat) (th ot : Bool) (hs : Instr.findNow (.int .i64) (.int .i64 K) shapeEs 0 = some (some (i, shapeV false n a th ot))) (S : ByteArray) (A3 : Option Addr) (L3 c3 : Nat) (A4 : Option Addr) (L4 c4 : Nat) (A5 : Option Addr) (L5 c5 : Nat) (m : Int) (w : World) (R : Ending → World → Prop)
    (hrest : ∀ (H : Nat) (Wn : World) (u7 u8 u9 u10 u11 u12 u13 : Value), Rows2 w.heap.size H (.int .i64 K) (.int .i64 0) (.string S) (.slice A3 L3 c3) (.slice A4 L4 c4) (.slice A5 L5 c5) (.bool false) (.bool n) (.int .i64 a) (.bool th) (.bool ot) w Wn →
      Code.wp Tryd.prog rest62 (bodyPost Tryd.prog Tryd.f62 R) { tmps := #[.agg #[.int .i64 K, .int .i64 0, .string S, .slice A3 L3 c3, .slice A4 L4 c4, .slice A5 L5 c5], .int .i64 m, .pointer (some ⟨w.heap.size, 0, none⟩), undef, .bool false, .pointer (some ⟨H, 0, none⟩), .bool true, u7, u8, u9, u10, u11, u12, u13] ++ Array.replicate 104 undef, defers := [] } Wn) :
    Calls Tryd.prog 62 #[.agg #[.int .i64 K, .int .i64 0, .string S, .slice A3 L3 c3, .slice A4 L4 c4, .slice A5 L5 c5], .int .i64 m] w R := by
  have hu27 := Tryd.underlying27
  have HS := Aside0.mk hs
  simp only [Array.replicate_succ, Array.replicate_zero, List.push_toArray, List.append_toArray, List.nil_append, List.cons_append] at hrest
  have HREST := Aside0.mk hrest
  clear hs hrest
  go_enter Tryd.func62, Tryd.ntmps62
  go_wp2
  obtain ⟨W, hW⟩ : ∃ W, W = w.alloc (.cells #[.int .i64 K, .int .i64 0, .string S, .slice A3 L3 c3, .slice A4 L4 c4, .slice A5 L5 c5] 27) := ⟨_, rfl⟩
  have f0 : W.cell? ⟨w.heap.size, 0, none⟩ = some (.int .i64 K) := by rw [hW]; simp
  have f1 : W.cell? ⟨w.heap.size, 1, none⟩ = some (.int .i64 0) := by rw [hW]; simp
  have f2 : W.cell? ⟨w.heap.size, 2, none⟩ = some (.string S) := by rw [hW]; simp
  have f3 : W.cell? ⟨w.heap.size, 3, none⟩ = some (.slice A3 L3 c3) := by rw [hW]; simp
  have f4 : W.cell? ⟨w.heap.size, 4, none⟩ = some (.slice A4 L4 c4) := by rw [hW]; simp
  have f5 : W.cell? ⟨w.heap.size, 5, none⟩ = some (.slice A5 L5 c5) := by rw [hW]; simp
  rw [← hW]
  have HW := Aside0.mk hW
  have HWB : Below w.heap.size w W := by rw [hW]; exact (Below.refl _ w).alloc (Nat.le_refl _) _
  clear hW
  have hne := World.new_ne W _ f0
  have hlt : w.heap.size < W.heap.size := block_lt_of_cell f0
  go_region_held3 (fun w' => w'.cell? ⟨w.heap.size, 0, none⟩ = some (.int .i64 K)) (go_keep)
    (first
      | (go_at_call 74; with_reducible refine (shapes_after W _ _ _ _ _ _).mono ?_; rintro e w1 ⟨⟨b, rfl, hb, hb0, hb1⟩, ⟨x0, x1, x2, x3, x4⟩, ⟨z0, z1, z2, z3, z4⟩⟩; have hB : Below w.heap.size w w1 := ((HWB.alloc (by omega) _).drew).trans (hb1.mono (by omega)); have g0 := (hb1.cell (p := ⟨w.heap.size, 0, none⟩) (by simp; omega)).trans (cell_ad f0); have g1 := (hb1.cell (p := ⟨w.heap.size, 1, none⟩) (by simp; omega)).trans (cell_ad f1); have g2 := (hb1.cell (p := ⟨w.heap.size, 2, none⟩) (by simp; omega)).trans (cell_ad f2); have g3 := (hb1.cell (p := ⟨w.heap.size, 3, none⟩) (by simp; omega)).trans (cell_ad f3); have g4 := (hb1.cell (p := ⟨w.heap.size, 4, none⟩) (by simp; omega)).trans (cell_ad f4); have g5 := (hb1.cell (p := ⟨w.heap.size, 5, none⟩) (by simp; omega)).trans (cell_ad f5); have q1 : w1.cell? ⟨w.heap.size, 0, none⟩ = some (.int .i64 K) := (hb1.cell (p := ⟨w.heap.size, 0, none⟩) (by simp; omega)).trans (by go_keep); obtain ⟨k1, k2, k3, k4, k5, k6⟩ := looks (v := .agg #[.bool false, .bool n, .int .i64 a, .bool th, .bool ot]) hb HS.out)
      | (go_at_call 74; refine (shapes_calls _).mono ?_; rintro e w1 ⟨b, rfl, hb, hb0, hb1⟩; have hB : Below w.heap.size w w1 := (HWB.drew).trans (hb1.mono (by simp; omega)); have g0 := (hb1.cell (p := ⟨w.heap.size, 0, none⟩) (by simp; omega)).trans (cell_d f0); have g1 := (hb1.cell (p := ⟨w.heap.size, 1, none⟩) (by simp; omega)).trans (cell_d f1); have g2 := (hb1.cell (p := ⟨w.heap.size, 2, none⟩) (by simp; omega)).trans (cell_d f2); have g3 := (hb1.cell (p := ⟨w.heap.size, 3, none⟩) (by simp; omega)).trans (cell_d f3); have g4 := (hb1.cell (p := ⟨w.heap.size, 4, none⟩) (by simp; omega)).trans (cell_d f4); have g5 := (hb1.cell (p := ⟨w.heap.size, 5, none⟩) (by simp; omega)).trans (cell_d f5); have q1 : w1.cell? ⟨w.heap.size, 0, none⟩ = some (.int .i64 K) := (hb1.cell (p := ⟨w.heap.size, 0, none⟩) (by simp; omega)).trans (by go_keep); obtain ⟨k1, k2, k3, k4, k5, k6⟩ := looks (v := .agg #[.bool false, .bool n, .int .i64 a, .bool th, .bool ot]) hb HS.out))
  all_goals simp only [Exit.then]
  all_goals apply_assumption
  all_goals have hBs := hB.size
  all_goals have hlt1 : w.heap.size < w1.heap.size := block_lt_of_cell g0
  all_goals first
    | exact HREST.out _ _ _ _ _ _ _ _ _ (Rows2.alloc hB hlt1 g0 g1 g2 g3 g4 g5)
    | exact HREST.out _ _ _ _ _ _ _ _ _ (Rows2.alloc (w := w1.drew) hB.drew hlt1 g0 g1 g2 g3 g4 g5)
    | exact HREST.out _ _ _ _ _ _ _ _ _ (Rows2.stored hB hlt g0 g1 g2 g3 g4 g5 x0 x1 x2 x3 x4)
    | trace_state
end Go.Proofs.YtijpghipfopplaaDoor.PDe
namespace Go.Proofs.YtijpghipfopplaaDoor.PDe
open Go.RowKit Go.Proofs.YtijpghipfopplaaDoorW.PrintWords Go.Proofs.YtijpghipfopplaaDoor.Gen

theorem fits_low (b : Bl) (hb : b ≠ .nil) (m : Int) (hm : m < 1) : b.fits m = false := by
  have : ¬ 1 ≤ m := by omega
  cases b <;> simp [Bl.fits, this] at hb ⊢
set_option maxRecDepth 100000 in
theorem stmt_step (b : Bl) (hn : b ≠ .nil) (ihT : stmtsOk b.th) (ihE : stmtsOk b.el) : stmtOk b := by
  intro m h0 h1 w cs hK
  obtain ⟨A3, c3, A4, c4, A5, c5, rfl, l3, g3, l4, g4, l5, g5⟩ := kS_open hK
  have HA := fun w' hb => args_calls b.args A3 c3 w' (Kd.C_below g3 hb)
  by_cases hm : m < 1
  · rw [fits_low b hn m hm]
    cases b with
    | nil => exact absurd rfl hn
    | set e => exact stmt_low 2 1 true 1 false false rfl _ _ _ _ _ _ _ _ _ _ m hm w
    | ret e => exact stmt_low 8 7 false 1 false false rfl _ _ _ _ _ _ _ _ _ _ m hm w
    | whil b => exact stmt_low 5 4 false 1 true false rfl _ _ _ _ _ _ _ _ _ _ m hm w
    | iff b => exact stmt_low 4 3 false 1 true true rfl _ _ _ _ _ _ _ _ _ _ m hm w
  · have hm1 : 1 ≤ m := by omega
    have HT := fun w' hb => ihT (m - 1) (by omega) (by omega) A4 c4 w' (Kd.C_below g4 hb)
    have HE := fun w' hb => ihE (m - 1) (by omega) (by omega) A5 c5 w' (Kd.C_below g5 hb)
    have hd : decide (1 ≤ m) = true := decide_eq_true hm1
    rw [Bl.fits_eq b hn m, hd, Bool.true_and]
    clear hK l3 g3 l4 g4 l5 g5
    cases b with
    | nil => exact absurd rfl hn
    | set e => exact stmt_high 2 1 true 1 false false rfl _ _ _ _ _ _ _ _ _ _ m w _ (fun H Wn u7 u8 u9 u10 u11 u12 u13 R => rest_set w Wn H _ A3 c3 A4 c4 A5 c5 m hm1 h1 u7 u8 u9 u10 u11 u12 u13 _ _ _ (fun w => name_one 120 (.inr (.inl rfl)) w) HA HT HE R)
    | ret e => exact stmt_high 8 7 false 1 false false rfl _ _ _ _ _ _ _ _ _ _ m w _ (fun H Wn u7 u8 u9 u10 u11 u12 u13 R => rest_ret w Wn H A3 c3 A4 c4 A5 c5 m hm1 h1 u7 u8 u9 u10 u11 u12 u13 _ _ _ HA HT HE R)
    | whil b => exact stmt_high 5 4 false 1 true false rfl _ _ _ _ _ _ _ _ _ _ m w _ (fun H Wn u7 u8 u9 u10 u11 u12 u13 R => rest_whil w Wn H A3 c3 A4 _ c4 A5 c5 m hm1 h1 u7 u8 u9 u10 u11 u12 u13 _ _ _ HA HT HE R)
    | iff b => exact stmt_high 4 3 false 1 true true rfl _ _ _ _ _ _ _ _ _ _ m w _ (fun H Wn u7 u8 u9 u10 u11 u12 u13 R => rest_iff w Wn H A3 c3 A4 c4 A5 _ c5 m hm1 h1 u7 u8 u9 u10 u11 u12 u13 _ _ _ HA HT HE R)
theorem stmts_nil : stmtsOk .nil := stmts_step _ (fun h => absurd rfl h)
theorem stmts_calls : ∀ b, stmtsOk b
  | .nil => stmts_nil
  | .set e => stmts_step _ (fun h => stmt_step _ h stmts_nil stmts_nil)
  | .ret e => stmts_step _ (fun h => stmt_step _ h stmts_nil stmts_nil)
  | .whil b => stmts_step _ (fun h => stmt_step _ h (stmts_calls b) stmts_nil)
  | .iff b => stmts_step _ (fun h => stmt_step _ h stmts_nil (stmts_calls b))
end Go.Proofs.YtijpghipfopplaaDoor.PDe
namespace Go.Proofs.YtijpghipfopplaaDoor.PDe
open Go.RowKit Go.Proofs.YtijpghipfopplaaDoorW.PrintWords Go.Proofs.YtijpghipfopplaaDoor.Gen

/-- A function that occurs: none that may be, or one of a type and a body. -/
inductive Fn1 | bad | fn (ty : Bool) (b : Bl)
def tyI : Bool → Int | true => 2 | false => 1
def Fn1.nm : Fn1 → ByteArray | .bad => ⟨#[]⟩ | .fn _ _ => ⟨#[102]⟩
def Fn1.ty : Fn1 → Int | .bad => 0 | .fn t _ => tyI t
def Fn1.body : Fn1 → Bl | .bad => .nil | .fn _ b => b
def Fn1.toS (f : Fn1) : S30 := ⟨f.nm, f.ty, [], f.body.toL⟩
def Fn1.ok : Fn1 → Bool | .bad => false | .fn _ b => b.fits 100
def kF : Kd Fn1 := Kd.iso k30 Fn1.toS
theorem kF_open {w : World} {f : Fn1} {cs : List Value} (h : kF.K w f cs) : ∃ A2 c2 A3 c3, cs = [.string f.nm, .int .i64 f.ty, .slice A2 0 c2, .slice A3 f.body.lst.length c3] ∧ Kd.C k53 w A2 0 [] ∧ f.body.lst.length ≤ c3 ∧ Kd.C kS w A3 f.body.lst.length f.body.lst := by
  have h' : k30.K w f.toS cs := h
  obtain ⟨A2, c2, A3, c3, e, h2, g2, h3, g3⟩ := k30_open h'
  simp only [Fn1.toS, List.length_nil, Bl.len] at e h2 g2 h3 g3
  exact ⟨A2, c2, A3, c3, e, g2, h3, C_kS g3⟩
theorem params_calls (A : Option Addr) (c : Nat) (w : World) (h : Kd.C k53 w A 0 []) :
    Calls Tryd.prog 39 #[.slice A 0 c, .func (.func 37) #[] #[]] w fun e w' => e = .returned (.bool false) ∧ Below w.heap.size w w' :=
  containsFunc Tryd.cfP k53 2 rfl Tryd.isAgg53 Tryd.sizeOf53 (fun _ => false) 37 #[] (fun args w => by kernel_rfl) A c [] w h
    fun W y cs hy hW hKy => by simp at hy
theorem isType_ty (t : Bool) (w : World) : Calls Tryd.prog 38 #[.int .i64 (tyI t)] w fun e w' => e = .returned (.bool true) ∧ Below w.heap.size w w' := by
  refine (tree_isType.calls (tyI t) true w (by cases t <;> rfl)).mono ?_
  rintro e w' ⟨rfl, h⟩
  first | exact ⟨rfl, h⟩ | exact ⟨rfl, h.below⟩
set_option maxHeartbeats 2000000 in
theorem function_calls (f : Fn1) (w : World) (cs : List Value) (hK : kF.K w f cs) :
    Calls Tryd.prog 21 #[.agg cs.toArray] w fun e w' => e = .returned (.bool f.ok) ∧ Below w.heap.size w w' := by
  have hu30 := Tryd.underlying30
  obtain ⟨A2, c2, A3, c3, rfl, hC2, hc3, hC3⟩ := kF_open hK
  have HP := fun w' hb => params_calls A2 c2 w' (Kd.C_below hC2 hb)
  have HS := fun w' hb => stmts_calls f.body 100 (by omega) (by omega) A3 c3 w' (Kd.C_below hC3 hb)
  clear hK hC2 hC3
  cases f with
  | bad =>
    show Calls Tryd.prog 21 #[.agg #[.string ⟨#[]⟩, .int .i64 0, .slice A2 0 c2, .slice A3 0 c3]] w fun e w' => e = .returned (.bool false) ∧ Below w.heap.size w w'
    clear HS HP
    go_enter Tryd.func21, Tryd.ntmps21
    go_wp2_with (first | (go_at_call 17; refine (name_none _).mono ?_; rintro e w1 ⟨rfl, hb1⟩))
    go_ret
    exact ⟨rfl, (one_row hb1).2⟩
  | fn t b =>
    show Calls Tryd.prog 21 #[.agg #[.string (one 102), .int .i64 (tyI t), .slice A2 0 c2, .slice A3 b.lst.length c3]] w fun e w' => e = .returned (.bool (b.fits 100)) ∧ Below w.heap.size w w'
    have HN := fun w => name_one 102 (.inl rfl) w
    have HI := fun w => isType_ty t w
    have HS' : ∀ w', Below w.heap.size w w' → Calls Tryd.prog 40 #[.slice A3 b.lst.length c3, .int .i64 100] w' fun e w'' => e = .returned (.bool (b.fits 100)) ∧ Below w'.heap.size w' w'' := HS
    clear HS
    generalize b.fits 100 = r at *
    generalize b.lst.length = L at *
    generalize tyI t = T at *
    generalize one 102 = S at *
    go_enter Tryd.func21, Tryd.ntmps21
    go_wp2_with (first
      | (go_at_call 17; refine (HN _).mono ?_; rintro e w1 ⟨rfl, hb1⟩; obtain ⟨p0, B1⟩ := one_row hb1; have q1 := p0 1; have q2 := p0 2; have q3 := p0 3; clear p0; simp at q1 q2 q3)
      | (go_at_call 38; refine (HI _).mono ?_; rintro e w2 ⟨rfl, hb2⟩; have B2 := B1.trans (hb2.mono B1.size); have q2 := (hb2.cell (p := ⟨w.heap.size, 2, none⟩) (block_lt_of_cell q2)).trans q2; have q3 := (hb2.cell (p := ⟨w.heap.size, 3, none⟩) (block_lt_of_cell q3)).trans q3)
      | (go_at_call 39; refine (HP _ B2).mono ?_; rintro e w3 ⟨rfl, hb3⟩; have B3 := B2.trans (hb3.mono B2.size); have q3 := (hb3.cell (p := ⟨w.heap.size, 3, none⟩) (block_lt_of_cell q3)).trans q3)
      | (go_at_call 40; refine (HS' _ B3).mono ?_; rintro e w4 ⟨rfl, hb4⟩; have B4 := B3.trans (hb4.mono B3.size)))
    go_ret
    exact ⟨by simp, B4⟩
end Go.Proofs.YtijpghipfopplaaDoor.PDe
namespace Go.Proofs.YtijpghipfopplaaDoor.PDe
open Go.RowKit Go.Proofs.YtijpghipfopplaaDoorW.PrintWords Go.Proofs.YtijpghipfopplaaDoor.Gen

set_option maxHeartbeats 2000000 in
theorem closure20 (f : Fn1) (w : World) (cs : List Value) (hK : kF.K w f cs) :
    Calls Tryd.prog 20 #[.agg cs.toArray] w fun e w' => e = .returned (.bool (!f.ok)) ∧ Below w.heap.size w w' := by
  have hu30 := Tryd.underlying30
  obtain ⟨A2, c2, A3, c3, rfl, _⟩ := kF_open hK
  have hcall : ∀ w', Below w.heap.size w w' → Calls Tryd.prog 21 #[.agg #[.string f.nm, .int .i64 f.ty, .slice A2 0 c2, .slice A3 f.body.lst.length c3]] w' fun e w'' => e = .returned (.bool f.ok) ∧ Below w'.heap.size w' w'' :=
    fun w' hb => function_calls f w' _ (kF.K_below hb hK)
  have HC := Aside0.mk hcall
  clear hcall hK
  generalize f.ok = r at *; generalize f.nm = S at *; generalize f.ty = T at *; generalize f.body.lst.length = L at *
  go_enter Tryd.func20, Tryd.ntmps20
  go_wp2_with (first | (go_at_call 21; refine (HC.out _ ((Below.refl _ w).alloc (Nat.le_refl _) _)).mono ?_; rintro e w1 ⟨rfl, hb1⟩))
  go_ret
  exact ⟨rfl, (one_row hb1).2⟩
set_option maxHeartbeats 2000000 in
theorem right_calls (f : Fn1) (A0 : Option Addr) (c0 : Nat) (A1 : Option Addr) (c1 : Nat) (w : World) (h0 : Kd.C k49 w A0 0 []) (h1 : Kd.C kF w A1 1 [f]) :
    Calls Tryd.prog 7 #[.agg #[.slice A0 0 c0, .slice A1 1 c1]] w fun e w' => e = .returned (.bool f.ok) ∧ Below w.heap.size w w' := by
  have hu34 := Tryd.underlying34
  have HA : ∀ w', Below w.heap.size w w' → Calls Tryd.prog 18 #[.slice A0 0 c0, .func (.func 16) #[] #[]] w' fun e w'' => e = .returned (.bool false) ∧ Below w'.heap.size w' w'' := fun w' hb =>
    containsFunc Tryd.cfA k49 2 rfl Tryd.isAgg49 Tryd.sizeOf49 (fun _ => false) 16 #[] (fun args w => by kernel_rfl) A0 c0 [] w' (Kd.C_below h0 hb) fun W y cs hy hW hKy => by simp at hy
  have HF : ∀ w', Below w.heap.size w w' → Calls Tryd.prog 19 #[.slice A1 1 c1, .func (.func 20) #[] #[]] w' fun e w'' => e = .returned (.bool (!f.ok)) ∧ Below w'.heap.size w' w'' := fun w' hb =>
    (containsFunc Tryd.cfF kF 4 rfl Tryd.isAgg30 Tryd.sizeOf30 (fun f => !f.ok) 20 #[] (fun args w => by kernel_rfl) A1 c1 [f] w' (Kd.C_below h1 hb) fun W y cs hy hW hKy =>
      (closure20 y W cs hKy).mono fun e w' h => ⟨h.1, hW.trans (h.2.mono hW.size)⟩).mono fun e w' h => ⟨by rw [h.1]; simp, h.2⟩
  clear h0 h1
  generalize f.ok = r at *
  go_enter Tryd.func7, Tryd.ntmps7
  go_wp2_with (first
    | (go_at_call 18; refine (HA _ ((Below.refl _ w).alloc (Nat.le_refl _) _)).mono ?_; rintro e w1 ⟨rfl, hb1⟩; obtain ⟨p0, B1⟩ := one_row hb1; have q1 := p0 1; clear p0; simp at q1)
    | (go_at_call 19; refine (HF _ B1).mono ?_; rintro e w2 ⟨rfl, hb2⟩; have B2 := B1.trans (hb2.mono B1.size)))
  go_ret
  exact ⟨by simp, B2⟩
end Go.Proofs.YtijpghipfopplaaDoor.PDe
