/- The reference's Right at the programs that occur. The reference's Print at the programs that occur. Data laid by the law's own statements: plain memory facts. The law's awake. The law's programs, as plain data. No walk. -/
import Derived.Test.YtijpghipfopplaaDoorMRefB
import Derived.Test.YtijpghipfopplaaDoorMPutB
import Derived.Test.YtijpghipfopplaaDoorMRefA
set_option linter.unusedVariables false
set_option linter.unusedSimpArgs false
namespace Go.Proofs.YtijpghipfopplaaDoor.PDe
open Go.RowKit Go.Proofs.YtijpghipfopplaaDoorW.PrintWords

theorem ristype (t : Bool) (w : World) : Calls Tryd.prog 23 #[.int .i64 (tyI t)] w fun e w' => e = .returned (.bool true) ∧ Below w.heap.size w w' := by
  refine (boxhedgeref03_isType.calls (tyI t) true w (by cases t <;> rfl)).mono ?_
  rintro e w' ⟨rfl, ⟨n, rfl⟩⟩
  exact ⟨rfl, below_drewN (Below.refl _ _) n⟩
theorem four_row {w : World} {B T : Nat} {a b c d : Value} (h : w.heap[B]? = some (.cells #[a, b, c, d] T (0, 0))) :
    w.cell? ⟨B, 0, none⟩ = some a ∧ w.cell? ⟨B, 1, none⟩ = some b ∧ w.cell? ⟨B, 2, none⟩ = some c ∧ w.cell? ⟨B, 3, none⟩ = some d :=
  ⟨cell_of_row _ _ 0 _ _ _ h, cell_of_row _ _ 1 _ _ _ h, cell_of_row _ _ 2 _ _ _ h, cell_of_row _ _ 3 _ _ _ h⟩
theorem two_row {w : World} {B T : Nat} {a b : Value} (h : w.heap[B]? = some (.cells #[a, b] T (0, 0))) :
    w.cell? ⟨B, 0, none⟩ = some a ∧ w.cell? ⟨B, 1, none⟩ = some b :=
  ⟨cell_of_row _ _ 0 _ _ _ h, cell_of_row _ _ 1 _ _ _ h⟩
theorem quad_of {w : World} {ad : Addr} {a b c d : Value} (h : ∀ w', Below w.heap.size w w' → ∀ j v, [a, b, c, d][j]? = some v → w'.cell? ((ad.add (0 * 4)).add j) = some v) : Aside0 (∀ w', Below w.heap.size w w' → Quad ad a b c d w') := ⟨fun w' hb => quad_at (h w' hb)⟩
set_option maxHeartbeats 2000000 in
set_option maxRecDepth 100000 in
theorem rright_bad (A0 : Option Addr) (c0 : Nat) (A1 : Option Addr) (c1 : Nat) (w : World) (h0 : Kd.C k49 w A0 0 []) (h1 : Kd.C kF w A1 1 [.bad]) :
    Calls Tryd.prog 8 #[.agg #[.slice A0 0 c0, .slice A1 1 c1]] w fun e w' => e = .returned (.bool false) ∧ Below w.heap.size w w' := by
  have hu34 := Tryd.underlying34
  have hu30 := Tryd.underlying30
  obtain ⟨ad, fcs, hA1, hKf, hlf⟩ := fn_at h1 0 _ rfl
  subst hA1
  obtain ⟨A2, c2, A3, c3, rfl, hC2, hc3, hC3⟩ := kF_open hKf
  have HLF : Aside0 (∀ w', Below w.heap.size w w' → Quad ad (.string ⟨#[]⟩) (.int .i64 0) (.slice A2 0 c2) (.slice A3 0 c3) w') := quad_of hlf
  have HN := fun w => rname_nil w
  clear h0 h1 hKf hlf hC2 hc3 hC3
  have B0 : Aside0 (Below w.heap.size w (w.alloc (.cells #[.slice A0 0 c0, .slice (some ad) 1 c1] 34))) := ⟨(Below.refl _ w).alloc (Nat.le_refl _) _⟩
  have R0 : Aside0 ((w.alloc (.cells #[.slice A0 0 c0, .slice (some ad) 1 c1] 34)).heap[w.heap.size]? = some (.cells #[.slice A0 0 c0, .slice (some ad) 1 c1] 34 (0, 0))) := ⟨heap_alloc_new w _⟩
  obtain ⟨x0, x1⟩ := two_row R0.out
  obtain ⟨a0, a1, a2, a3⟩ := HLF.out _ B0.out
  go_enter Tryd.func8, Tryd.ntmps8
  go_wp2
  generalize w.alloc (.cells #[.slice A0 0 c0, .slice (some ad) 1 c1] 34) = W at *
  refine wp_loop_rounds 1 ?_
  rw [rounds_succ]
  go_wp2
  refine wp_loop_rounds 2 ?_
  rw [rounds_succ]
  go_wp2_with (first
    | (go_at_call 22; refine (HN _).mono ?_; rintro e w1 ⟨rfl, hb1⟩; have B1 := Aside0.mk (B0.out.trans ((one_row hb1).2.mono B0.out.size)); obtain ⟨y0, y1, y2, y3⟩ := four_row (row_keep hb1 (heap_alloc_new W _))))
  go_ret
  exact ⟨rfl, B1.out⟩
set_option maxHeartbeats 4000000 in
set_option maxRecDepth 100000 in
theorem rright_fn (ty : Bool) (b : Bl) (A0 : Option Addr) (c0 : Nat) (A1 : Option Addr) (c1 : Nat) (w : World) (h0 : Kd.C k49 w A0 0 []) (h1 : Kd.C kF w A1 1 [.fn ty b]) :
    Calls Tryd.prog 8 #[.agg #[.slice A0 0 c0, .slice A1 1 c1]] w fun e w' => e = .returned (.bool (b.fits 100)) ∧ Below w.heap.size w w' := by
  have hu34 := Tryd.underlying34
  have hu30 := Tryd.underlying30
  obtain ⟨ad, fcs, hA1, hKf, hlf⟩ := fn_at h1 0 _ rfl
  subst hA1
  obtain ⟨A2, c2, A3, c3, rfl, hC2, hc3, hC3⟩ := kF_open hKf
  have HLF : Aside0 (∀ w', Below w.heap.size w w' → Quad ad (.string ⟨#[102]⟩) (.int .i64 (tyI ty)) (.slice A2 0 c2) (.slice A3 b.lst.length c3) w') := quad_of hlf
  have HN := fun w => rname_f w
  have HI := fun w => ristype ty w
  have HS : Aside0 (∀ w', Below w.heap.size w w' → Calls Tryd.prog 24 #[.slice A3 b.lst.length c3, .int .i64 100] w' fun r w'' => r = .returned (.bool (b.fits 100)) ∧ Below w'.heap.size w' w'') := ⟨fun w' hb => rs_calls b 100 w' A3 c3 (by omega) (by omega) (Kd.C_below hC3 hb)⟩
  clear h0 h1 hKf hlf hC2 hc3 hC3
  generalize tyI ty = TY at *
  generalize b.lst.length = LB at *
  generalize b.fits 100 = q at *
  have B0 : Aside0 (Below w.heap.size w (w.alloc (.cells #[.slice A0 0 c0, .slice (some ad) 1 c1] 34))) := ⟨(Below.refl _ w).alloc (Nat.le_refl _) _⟩
  have R0 : Aside0 ((w.alloc (.cells #[.slice A0 0 c0, .slice (some ad) 1 c1] 34)).heap[w.heap.size]? = some (.cells #[.slice A0 0 c0, .slice (some ad) 1 c1] 34 (0, 0))) := ⟨heap_alloc_new w _⟩
  obtain ⟨x0, x1⟩ := two_row R0.out
  obtain ⟨a0, a1, a2, a3⟩ := HLF.out _ B0.out
  cases q with
  | false =>
    go_enter Tryd.func8, Tryd.ntmps8
    go_wp2
    generalize w.alloc (.cells #[.slice A0 0 c0, .slice (some ad) 1 c1] 34) = W at *
    refine wp_loop_rounds 1 ?_
    rw [rounds_succ]
    go_wp2
    refine wp_loop_rounds 2 ?_
    rw [rounds_succ]
    go_wp2_with (first
      | (go_at_call 22; refine (HN _).mono ?_; rintro e w1 ⟨rfl, hb1⟩; have B1 := Aside0.mk (B0.out.trans ((one_row hb1).2.mono B0.out.size)); have R1 := Aside0.mk (row_keep hb1 (heap_alloc_new W _)); obtain ⟨y0, y1, y2, y3⟩ := four_row R1.out; clear hb1)
      | (go_at_call 23; refine (HI _).mono ?_; rintro e w2 ⟨rfl, hb2⟩; have B2 := Aside0.mk (B1.out.trans (hb2.mono B1.out.size)); have R2 := Aside0.mk (row_keep hb2 R1.out); obtain ⟨y0, y1, y2, y3⟩ := four_row R2.out; clear hb2)
      | (go_at_call 24; refine (HS.out _ B2.out).mono ?_; rintro e w3 ⟨rfl, hb3⟩; have B3 := Aside0.mk (B2.out.trans (hb3.mono B2.out.size)); have R3 := Aside0.mk (row_keep hb3 R2.out); obtain ⟨y0, y1, y2, y3⟩ := four_row R3.out; clear hb3))
    go_ret
    exact ⟨rfl, B3.out⟩
  | true =>
    go_enter Tryd.func8, Tryd.ntmps8
    go_wp2
    have hsw : w.heap.size < (w.alloc (.cells #[.slice A0 0 c0, .slice (some ad) 1 c1] 34)).heap.size := by simp
    generalize w.alloc (.cells #[.slice A0 0 c0, .slice (some ad) 1 c1] 34) = W at *
    refine wp_loop_rounds 1 ?_
    rw [rounds_succ]
    go_wp2
    refine wp_loop_rounds 2 ?_
    rw [rounds_succ]
    go_wp2_with (first
      | (go_at_call 22; refine (HN _).mono ?_; rintro e w1 ⟨rfl, hb1⟩; have B1 := Aside0.mk (B0.out.trans ((one_row hb1).2.mono B0.out.size)); have Q1 := Aside0.mk (row_keep (one_row hb1).2 R0.out); have R1 := Aside0.mk (row_keep hb1 (heap_alloc_new W _)); obtain ⟨y0, y1, y2, y3⟩ := four_row R1.out; clear hb1)
      | (go_at_call 23; refine (HI _).mono ?_; rintro e w2 ⟨rfl, hb2⟩; have B2 := Aside0.mk (B1.out.trans (hb2.mono B1.out.size)); have Q2 := Aside0.mk (row_keep hb2 Q1.out); have R2 := Aside0.mk (row_keep hb2 R1.out); obtain ⟨y0, y1, y2, y3⟩ := four_row R2.out; clear hb2)
      | (go_at_call 24; refine (HS.out _ B2.out).mono ?_; rintro e w3 ⟨rfl, hb3⟩; have B3 := Aside0.mk (B2.out.trans (hb3.mono B2.out.size)); have R3 := Aside0.mk (row_keep hb3 R2.out); obtain ⟨z0, z1⟩ := two_row (row_keep hb3 Q2.out); obtain ⟨y0, y1, y2, y3⟩ := four_row R3.out; clear hb3))
    refine wp_loop_rounds 1 ?_
    rw [rounds_succ]
    go_wp2
    rw [rounds_succ]
    go_wp2
    go_ret
    exact ⟨rfl, B3.out⟩
theorem rright_calls (f : Fn1) (A0 : Option Addr) (c0 : Nat) (A1 : Option Addr) (c1 : Nat) (w : World) (h0 : Kd.C k49 w A0 0 []) (h1 : Kd.C kF w A1 1 [f]) :
    Calls Tryd.prog 8 #[.agg #[.slice A0 0 c0, .slice A1 1 c1]] w fun e w' => e = .returned (.bool f.ok) ∧ Below w.heap.size w w' := by
  cases f with
  | bad => exact rright_bad A0 c0 A1 c1 w h0 h1
  | fn ty b => exact rright_fn ty b A0 c0 A1 c1 w h0 h1
end Go.Proofs.YtijpghipfopplaaDoor.PDe
namespace Go.Proofs.YtijpghipfopplaaDoor.PDe
open Go.RowKit Go.Proofs.YtijpghipfopplaaDoorW.PrintWords

theorem rtypes (t : Bool) (w : World) : Calls Tryd.prog 14 #[.int .i64 (tyI t)] w fun e w' => e = .returned (.string ⟨(Pt.kind t).text.toArray⟩) ∧ Below w.heap.size w w' := by
  refine (boxhedgeref03_types.calls (tyI t) ⟨(Pt.kind t).text.toArray⟩ w (by cases t <;> kernel_rfl)).mono ?_
  rintro e w' ⟨rfl, ⟨n, rfl⟩⟩
  exact ⟨rfl, below_drewN (Below.refl _ _) n⟩
set_option maxHeartbeats 2000000 in
set_option maxRecDepth 100000 in
theorem rprint_bad (f : Fn1) (hf : f.ok = false) (A0 : Option Addr) (c0 : Nat) (A1 : Option Addr) (c1 : Nat) (w : World) (h0 : Kd.C k49 w A0 0 []) (h1 : Kd.C kF w A1 1 [f]) :
    Calls Tryd.prog 5 #[.agg #[.slice A0 0 c0, .slice A1 1 c1]] w fun e w' => e = .returned (.tuple #[.string ⟨#[]⟩, .int .i64 1]) ∧ Below w.heap.size w w' := by
  have hu34 := Tryd.underlying34
  have HR : ∀ w', Below w.heap.size w w' → Calls Tryd.prog 8 #[.agg #[.slice A0 0 c0, .slice A1 1 c1]] w' fun e w'' => e = .returned (.bool false) ∧ Below w'.heap.size w' w'' := fun w' hb =>
    (rright_calls f A0 c0 A1 c1 w' (Kd.C_below h0 hb) (Kd.C_below h1 hb)).mono fun e w'' h => ⟨by rw [h.1, hf], h.2⟩
  clear h0 h1 hf
  go_enter Tryd.func5, Tryd.ntmps5
  go_wp2_with (first
    | (go_at_call 8; refine (HR _ ((Below.refl _ w).alloc (Nat.le_refl _) _)).mono ?_; rintro e w1 ⟨rfl, hb1⟩; have B1 := (one_row hb1).2))
  go_ret2
  exact ⟨rfl, B1⟩
set_option maxHeartbeats 4000000 in
set_option maxRecDepth 100000 in
theorem rprint_ok (ty : Bool) (b : Bl) (hf : b.fits 100 = true) (hd : b.deep ≤ 400) (hlen : (Fn1.fn ty b).text.length ≤ LIM) (A0 : Option Addr) (c0 : Nat) (A1 : Option Addr) (c1 : Nat) (w : World) (h0 : Kd.C k49 w A0 0 []) (h1 : Kd.C kF w A1 1 [.fn ty b]) :
    Calls Tryd.prog 5 #[.agg #[.slice A0 0 c0, .slice A1 1 c1]] w fun e w' => e = .returned (.tuple #[.string ⟨(Fn1.fn ty b).text.toArray⟩, .int .i64 0]) ∧ Below w.heap.size w w' := by
  have hu34 := Tryd.underlying34
  have hu30 := Tryd.underlying30
  have HR : ∀ w', Below w.heap.size w w' → Calls Tryd.prog 8 #[.agg #[.slice A0 0 c0, .slice A1 1 c1]] w' fun e w'' => e = .returned (.bool true) ∧ Below w'.heap.size w' w'' := fun w' hb =>
    (rright_calls (.fn ty b) A0 c0 A1 c1 w' (Kd.C_below h0 hb) (Kd.C_below h1 hb)).mono fun e w'' h => ⟨by rw [h.1]; show _ = Ending.returned (.bool true); rw [← hf]; rfl, h.2⟩
  obtain ⟨ad, fcs, hA1, hKf, hlf⟩ := fn_at h1 0 _ rfl
  subst hA1
  obtain ⟨A2, c2, A3, c3, rfl, hC2, hc3, hC3⟩ := kF_open hKf
  have HLF : Aside0 (∀ w', Below w.heap.size w w' → Quad ad (.string ⟨#[102]⟩) (.int .i64 (tyI ty)) (.slice A2 0 c2) (.slice A3 b.lst.length c3) w') := quad_of hlf
  have l0 := hlen
  unfold LIM at l0
  simp only [Fn1.text, List.length_append, List.length_cons, List.length_nil] at l0
  have l1 : (b.text 1).length ≤ LIM := by unfold LIM; omega
  have HB : Aside0 (∀ w', Below w.heap.size w w' → Calls Tryd.prog 15 #[.slice A3 b.lst.length c3, .string ⟨#[9]⟩] w' fun r w'' => r = .returned (.string ⟨(b.text 1).toArray⟩) ∧ Below w'.heap.size w' w'') := ⟨fun w' hb => rb_calls b 1 w' A3 c3 (Kd.C_below hC3 hb) (by omega) l1⟩
  have HT := fun w => rtypes ty w
  have eT : (⟨(Fn1.fn ty b).text.toArray⟩ : ByteArray) = ⟨#[]⟩ ++ ⟨(Pt.kind ty).text.toArray⟩ ++ ⟨#[32]⟩ ++ ⟨#[102]⟩ ++ ⟨#[40]⟩ ++ ⟨#[]⟩ ++ ⟨#[41, 32, 123, 10]⟩ ++ ⟨(b.text 1).toArray⟩ ++ ⟨#[125, 10]⟩ := by
    apply ByteArray.ext
    simp [ByteArray.data_append, Fn1.text, tabsB, Lib.repeatL]
  rw [eT]
  have l3 : (⟨(Pt.kind ty).text.toArray⟩ : ByteArray).size + (⟨(b.text 1).toArray⟩ : ByteArray).size + 9 ≤ 1000000 := by
    show (Pt.kind ty).text.toArray.size + (b.text 1).toArray.size + 9 ≤ _
    simp only [List.size_toArray]; omega
  clear h0 h1 hf hlen hd hKf hlf hC2 hc3 hC3 l0 l1 eT
  generalize tyI ty = TY at *
  generalize b.lst.length = LB at *
  generalize (⟨(Pt.kind ty).text.toArray⟩ : ByteArray) = KT at *
  generalize (⟨(b.text 1).toArray⟩ : ByteArray) = TB at *
  go_enter Tryd.func5, Tryd.ntmps5
  go_wp2_with (first
    | (go_at_call 8; refine (HR _ ((Below.refl _ w).alloc (Nat.le_refl _) _)).mono ?_; rintro e w1 ⟨rfl, hb1⟩; have B1 := Aside0.mk (one_row hb1).2; have R1 := Aside0.mk (row_keep hb1 (heap_alloc_new w _)); obtain ⟨x0, x1⟩ := two_row R1.out; clear hb1 HR))
  have hs1 : w.heap.size < w1.heap.size := block_lt_of_cell x0
  obtain ⟨a0, a1, a2, a3⟩ := HLF.out _ B1.out
  refine wp_loop_rounds 1 ?_
  rw [rounds_succ]
  go_wp2
  refine wp_loop_rounds 2 ?_
  rw [rounds_succ]
  go_wp2
  refine wp_loop_rounds 1 ?_
  rw [rounds_succ]
  go_wp2
  obtain ⟨W, hW⟩ : ∃ W, W = w1.alloc (.cells #[.string ⟨#[102]⟩, .int .i64 TY, .slice A2 0 c2, .slice A3 LB c3] 30) := ⟨_, rfl⟩
  rw [← hW]
  have R2 : Aside0 (W.heap[w1.heap.size]? = some (.cells #[.string ⟨#[102]⟩, .int .i64 TY, .slice A2 0 c2, .slice A3 LB c3] 30 (0, 0))) := ⟨by rw [hW]; exact heap_alloc_new w1 _⟩
  have B2 : Aside0 (Below w.heap.size w W) := ⟨by rw [hW]; exact B1.out.alloc (Nat.le_of_lt hs1) _⟩
  have Q2 : Aside0 (W.heap[w.heap.size]? = some (.cells #[.slice A0 0 c0, .slice (some ad) 1 c1] 34 (0, 0))) := ⟨by rw [hW, Go.heap_alloc_old w1 _ hs1]; exact R1.out⟩
  have hlt : w1.heap.size < W.heap.size := (Array.getElem?_eq_some_iff.1 R2.out).1
  obtain ⟨y0, y1, y2, y3⟩ := four_row R2.out
  clear hW x0 x1 a0 a1 a2 a3
  have q0 : ¬ 9223372036854775807 < KT.size := by omega
  have q1 : ¬ 9223372036854775807 < KT.size + 1 := by omega
  have q2 : ¬ 9223372036854775807 < KT.size + 1 + 1 := by omega
  have q3 : ¬ 9223372036854775807 < KT.size + 1 + 1 + 1 := by omega
  have q4 : ¬ 9223372036854775807 < KT.size + 3 := by omega
  have q5 : ¬ 9223372036854775807 < KT.size + 3 + 4 := by omega
  have q6 : ¬ 9223372036854775807 < KT.size + 3 + 4 + TB.size := by omega
  have q7 : ¬ 9223372036854775807 < KT.size + 3 + 4 + TB.size + 2 := by omega
  go_region_held3 (fun w' => w'.cell? ⟨w1.heap.size, 0, none⟩ = some (.string ⟨#[102]⟩) ∧ w'.cell? ⟨w1.heap.size, 1, none⟩ = some (.int .i64 TY) ∧ w'.cell? ⟨w1.heap.size, 3, none⟩ = some (.slice A3 LB c3)) (first | exact ⟨y0, y1, y3⟩ | exact ⟨z0, z1, z3⟩ | go_keep)
      (first
        | (go_at_call 14; refine (HT _).mono ?_; rintro e w2 ⟨rfl, hb2⟩; have B3 := Aside0.mk (B2.out.drew.trans (hb2.mono (B2.out.drew).size)); have R3 := Aside0.mk (row_keep hb2 R2.out); have Q3 := Aside0.mk (row_keep hb2 Q2.out); clear hb2; obtain ⟨z0, z1, z2, z3⟩ := four_row R3.out)
        | (go_at_call 15; refine (HB.out _ B3.out).mono ?_; rintro e w3 ⟨rfl, hb3⟩; have B4 := Aside0.mk (B3.out.trans (hb3.mono B3.out.size)); have R4 := Aside0.mk (row_keep hb3 R3.out); have Q4 := Aside0.mk (row_keep hb3 Q3.out); clear hb3; obtain ⟨y0, y1, y2, y3⟩ := four_row R4.out))
  clear q0 q1 q2 q3 q4 q5 q6 q7
  obtain ⟨x0, x1⟩ := two_row Q4.out
  go_wp2
  rw [rounds_succ]
  go_wp2
  go_ret2
  exact ⟨rfl, B4.out⟩
end Go.Proofs.YtijpghipfopplaaDoor.PDe
namespace Go.Proofs.YtijpghipfopplaaDoor.PDe
open Go.RowKit Go.Proofs.YtijpghipfopplaaDoorW.PrintWords

theorem kE_C {w : World} {A : Option Addr} {xs : List Ex} {n : Nat} (h : Kd.C kE w A n xs) : Kd.C k24 w A n (xs.map Ex.toS) := by
  obtain ⟨h1, h2, h3⟩ := h
  refine ⟨by rw [List.length_map]; exact h1, h2, fun h0 => ?_⟩
  obtain ⟨ad, e, hc⟩ := h3 h0
  refine ⟨ad, e, fun i p hp => ?_⟩
  rw [List.getElem?_map] at hp
  obtain ⟨x, hx, rfl⟩ := Option.map_eq_some_iff.1 hp
  exact hc i x hx
theorem kE_mk (w : World) (x : Ex) {A : Option Addr} {c : Nat} (hl : x.args.length ≤ c) (hC : Kd.C kE w A x.args.length x.args) :
    kE.K w x [.int .i64 x.kind, .int .i64 x.op, .int .i64 x.n, .string x.nm, .slice A x.args.length c] := by
  show k24.K w x.toS _
  have h := kE_C hC
  have key := @k24_mk w ⟨x.kind, x.op, x.n, x.nm, x.args.map Ex.toS⟩ A c (by simpa using hl) (by simpa using h)
  rw [Ex.toS_eq x]
  simpa using key
theorem C_nil {α : Type} (d : Kd α) (w : World) (A : Option Addr) : Kd.C d w A 0 [] := ⟨rfl, by omega, fun h => absurd h (Nat.lt_irrefl 0)⟩
theorem new_cell (w : World) (cs : List Value) (T : TypeId) (j : Nat) (v : Value) (h : cs[j]? = some v) : (w.alloc (.cells cs.toArray T)).cell? ⟨w.heap.size, j, none⟩ = some v := by
  rw [cell_of_row _ _ j _ _ _ (heap_alloc_new w _)]
  simpa using h
/-- One element, in a row that is new. -/
theorem C_one {α : Type} (d : Kd α) (w : World) (x : α) (cs : List Value) (T : TypeId) (hK : d.K w x cs) (B : Nat) (hB : w.heap.size = B) : Kd.C d (w.alloc (.cells cs.toArray T)) (some ⟨B, 0, none⟩) 1 [x] := by
  subst hB
  refine ⟨rfl, by omega, fun _ => ⟨_, rfl, fun j p hp => ?_⟩⟩
  cases j with
  | succ j => simp at hp
  | zero =>
    simp at hp; subst hp
    refine ⟨cs, d.K_len hK, d.K_below ((Below.refl _ w).alloc (Nat.le_refl _) _) hK, fun i u hu => ?_⟩
    rw [Nat.zero_mul, Nat.zero_add, add_plain]
    exact new_cell w cs T i u hu
/-- Two elements, in a row that is new. -/
theorem C_two {α : Type} (d : Kd α) (w : World) (x y : α) (cs ds : List Value) (T : TypeId) (hK : d.K w x cs) (hL : d.K w y ds) (B : Nat) (hB : w.heap.size = B) : Kd.C d (w.alloc (.cells (cs ++ ds).toArray T)) (some ⟨B, 0, none⟩) 2 [x, y] := by
  subst hB
  have hl := d.K_len hK
  refine ⟨rfl, by omega, fun _ => ⟨_, rfl, fun j p hp => ?_⟩⟩
  match j with
  | 0 =>
    simp at hp; subst hp
    refine ⟨cs, hl, d.K_below ((Below.refl _ w).alloc (Nat.le_refl _) _) hK, fun i u hu => ?_⟩
    rw [Nat.zero_mul, Nat.zero_add, add_plain]
    exact new_cell w _ T i u (by rw [List.getElem?_append_left (List.getElem?_eq_some_iff.1 hu).1]; exact hu)
  | 1 =>
    simp at hp; subst hp
    refine ⟨ds, d.K_len hL, d.K_below ((Below.refl _ w).alloc (Nat.le_refl _) _) hL, fun i u hu => ?_⟩
    rw [Nat.one_mul, add_plain]
    exact new_cell w _ T _ u (by rw [List.getElem?_append_right (by omega), ← hl, Nat.add_sub_cancel_left]; exact hu)
  | j + 2 => simp at hp
theorem kE_leaf (w : World) (n : Nat) (A : Option Addr) (c : Nat) : kE.K w (.num n) [.int .i64 1, .int .i64 0, .int .i64 (dig n), .string ⟨#[]⟩, .slice A 0 c] := kE_mk w (.num n) (Nat.zero_le c) (C_nil kE w A)
theorem kE_var (w : World) (A : Option Addr) (c : Nat) : kE.K w .var [.int .i64 3, .int .i64 0, .int .i64 0, .string ⟨#[121]⟩, .slice A 0 c] := kE_mk w .var (Nat.zero_le c) (C_nil kE w A)
theorem kS_C {w : World} {A : Option Addr} {b : Bl} (h : Kd.C kS w A b.lst.length b.lst) : Kd.C k27 w A b.toL.length b.toL := by
  obtain ⟨h1, h2, h3⟩ := h
  refine ⟨rfl, by rw [Bl.len]; exact h2, fun h0 => ?_⟩
  obtain ⟨ad, e, hc⟩ := h3 (by rw [← Bl.len]; exact h0)
  refine ⟨ad, e, fun i p hp => ?_⟩
  rw [Bl.toL_eq, List.getElem?_map] at hp
  obtain ⟨x, hx, rfl⟩ := Option.map_eq_some_iff.1 hp
  exact hc i x hx
theorem kS_mk (w : World) (b : Bl) {A3 : Option Addr} {c3 : Nat} (l3 : b.args.length ≤ c3) (h3 : Kd.C kE w A3 b.args.length b.args) {A4 : Option Addr} {c4 : Nat} (l4 : b.th.lst.length ≤ c4) (h4 : Kd.C kS w A4 b.th.lst.length b.th.lst) {A5 : Option Addr} {c5 : Nat} (l5 : b.el.lst.length ≤ c5) (h5 : Kd.C kS w A5 b.el.lst.length b.el.lst) :
    kS.K w b [.int .i64 b.kind, .int .i64 0, .string b.nm, .slice A3 b.args.length c3, .slice A4 b.th.lst.length c4, .slice A5 b.el.lst.length c5] := by
  show k27.K w b.toS _
  have g3 := kE_C h3
  have g4 := kS_C h4
  have g5 := kS_C h5
  have key := @k27_mk w b.toS A3 c3 (by simpa [Bl.toS] using l3) (by simpa [Bl.toS] using g3) A4 c4 (by simpa [Bl.toS, Bl.len] using l4) g4 A5 c5 (by simpa [Bl.toS, Bl.len] using l5) g5
  simpa [Bl.toS, Bl.len] using key
theorem kF_mk (w : World) (f : Fn1) {A2 : Option Addr} {c2 : Nat} {A3 : Option Addr} {c3 : Nat} (l3 : f.body.lst.length ≤ c3) (h3 : Kd.C kS w A3 f.body.lst.length f.body.lst) :
    kF.K w f [.string f.nm, .int .i64 f.ty, .slice A2 0 c2, .slice A3 f.body.lst.length c3] := by
  show k30.K w f.toS _
  have g3 := kS_C h3
  have key := @k30_mk w f.toS A2 c2 (Nat.zero_le _) (C_nil k53 w A2) A3 c3 (by simpa [Fn1.toS, Bl.len] using l3) g3
  simpa [Fn1.toS, Bl.len] using key
end Go.Proofs.YtijpghipfopplaaDoor.PDe
namespace Go.Proofs.YtijpghipfopplaaDoor.PDe
open Go.RowKit Go.Proofs.YtijpghipfopplaaDoorW.PrintWords

/-- The law's own little program. -/
def awakeF : Fn1 := .fn true (.set (.two 2 (.two 0 (.num 1) (.num 2)) (.neg .var)))
theorem awakeF_text : awakeF.text = [98, 111, 111, 108, 32, 102, 40, 41, 32, 123, 10, 9, 120, 32, 61, 32, 40, 49, 32, 43, 32, 50, 41, 32, 42, 32, 45, 121, 59, 10, 125, 10] := by decide
set_option maxHeartbeats 2000000 in
set_option maxRecDepth 100000 in
theorem awake_calls (w : World) : Calls Tryd.prog 6 #[] w fun e w' => e = .returned (.bool true) ∧ Below w.heap.size w w' := by
  have hu24 := Tryd.underlying24
  have hu27 := Tryd.underlying27
  have hu30 := Tryd.underlying30
  have hu34 := Tryd.underlying34
  obtain ⟨W1, hW1⟩ : ∃ W, W = w.alloc (.cells #[.int .i64 3, .int .i64 0, .int .i64 0, .string ⟨#[121]⟩, .slice none 0 0] 24) := ⟨_, rfl⟩
  have s1 : W1.heap.size = w.heap.size + 1 := by rw [hW1]; simp
  have b1 : Below w.heap.size w W1 := by rw [hW1]; exact (Below.refl _ _).alloc (Nat.le_refl _) _
  obtain ⟨W2, hW2⟩ : ∃ W, W = W1.alloc (.cells #[.int .i64 1, .int .i64 0, .int .i64 1, .string ⟨#[]⟩, .slice none 0 0, .int .i64 1, .int .i64 0, .int .i64 2, .string ⟨#[]⟩, .slice none 0 0] 24) := ⟨_, rfl⟩
  have s2 : W2.heap.size = w.heap.size + 1 + 1 := by rw [hW2]; simp [s1]
  have b2 : Below W1.heap.size W1 W2 := by rw [hW2]; exact (Below.refl _ _).alloc (Nat.le_refl _) _
  obtain ⟨W3, hW3⟩ : ∃ W, W = W2.alloc (.cells #[.int .i64 5, .int .i64 1, .int .i64 0, .string ⟨#[]⟩, .slice (some ⟨w.heap.size + 1, 0, none⟩) 2 2] 24) := ⟨_, rfl⟩
  have s3 : W3.heap.size = w.heap.size + 1 + 1 + 1 := by rw [hW3]; simp [s2]
  have b3 : Below W2.heap.size W2 W3 := by rw [hW3]; exact (Below.refl _ _).alloc (Nat.le_refl _) _
  obtain ⟨W4, hW4⟩ : ∃ W, W = W3.alloc (.cells #[.int .i64 3, .int .i64 0, .int .i64 0, .string ⟨#[121]⟩, .slice none 0 0] 24) := ⟨_, rfl⟩
  have s4 : W4.heap.size = w.heap.size + 1 + 1 + 1 + 1 := by rw [hW4]; simp [s3]
  have b4 : Below W3.heap.size W3 W4 := by rw [hW4]; exact (Below.refl _ _).alloc (Nat.le_refl _) _
  obtain ⟨W5, hW5⟩ : ∃ W, W = W4.alloc (.cells #[.int .i64 5, .int .i64 1, .int .i64 0, .string ⟨#[]⟩, .slice (some ⟨w.heap.size + 1, 0, none⟩) 2 2, .int .i64 4, .int .i64 20, .int .i64 0, .string ⟨#[]⟩, .slice (some ⟨w.heap.size + 1 + 1 + 1, 0, none⟩) 1 1] 24) := ⟨_, rfl⟩
  have s5 : W5.heap.size = w.heap.size + 1 + 1 + 1 + 1 + 1 := by rw [hW5]; simp [s4]
  have b5 : Below W4.heap.size W4 W5 := by rw [hW5]; exact (Below.refl _ _).alloc (Nat.le_refl _) _
  obtain ⟨W6, hW6⟩ : ∃ W, W = W5.alloc (.cells #[.int .i64 5, .int .i64 3, .int .i64 0, .string ⟨#[]⟩, .slice (some ⟨w.heap.size + 1 + 1 + 1 + 1, 0, none⟩) 2 2] 24) := ⟨_, rfl⟩
  have s6 : W6.heap.size = w.heap.size + 1 + 1 + 1 + 1 + 1 + 1 := by rw [hW6]; simp [s5]
  have b6 : Below W5.heap.size W5 W6 := by rw [hW6]; exact (Below.refl _ _).alloc (Nat.le_refl _) _
  obtain ⟨W7, hW7⟩ : ∃ W, W = W6.alloc (.cells #[.int .i64 5, .int .i64 3, .int .i64 0, .string ⟨#[]⟩, .slice (some ⟨w.heap.size + 1 + 1 + 1 + 1, 0, none⟩) 2 2] 24) := ⟨_, rfl⟩
  have s7 : W7.heap.size = w.heap.size + 1 + 1 + 1 + 1 + 1 + 1 + 1 := by rw [hW7]; simp [s6]
  have b7 : Below W6.heap.size W6 W7 := by rw [hW7]; exact (Below.refl _ _).alloc (Nat.le_refl _) _
  obtain ⟨W8, hW8⟩ : ∃ W, W = W7.alloc (.cells #[.int .i64 2, .int .i64 0, .string ⟨#[120]⟩, .slice (some ⟨w.heap.size + 1 + 1 + 1 + 1 + 1 + 1, 0, none⟩) 1 1, .slice none 0 0, .slice none 0 0] 27) := ⟨_, rfl⟩
  have s8 : W8.heap.size = w.heap.size + 1 + 1 + 1 + 1 + 1 + 1 + 1 + 1 := by rw [hW8]; simp [s7]
  have b8 : Below W7.heap.size W7 W8 := by rw [hW8]; exact (Below.refl _ _).alloc (Nat.le_refl _) _
  obtain ⟨W9, hW9⟩ : ∃ W, W = W8.alloc (.cells #[.string ⟨#[102]⟩, .int .i64 2, .slice none 0 0, .slice (some ⟨w.heap.size + 1 + 1 + 1 + 1 + 1 + 1 + 1, 0, none⟩) 1 1] 30) := ⟨_, rfl⟩
  have s9 : W9.heap.size = w.heap.size + 1 + 1 + 1 + 1 + 1 + 1 + 1 + 1 + 1 := by rw [hW9]; simp [s8]
  have b9 : Below W8.heap.size W8 W9 := by rw [hW9]; exact (Below.refl _ _).alloc (Nat.le_refl _) _
  obtain ⟨W10, hW10⟩ : ∃ W, W = W9.alloc (.cells #[.slice none 0 0, .slice (some ⟨w.heap.size + 1 + 1 + 1 + 1 + 1 + 1 + 1 + 1, 0, none⟩) 1 1] 34) := ⟨_, rfl⟩
  have s10 : W10.heap.size = w.heap.size + 1 + 1 + 1 + 1 + 1 + 1 + 1 + 1 + 1 + 1 := by rw [hW10]; simp [s9]
  have b10 : Below W9.heap.size W9 W10 := by rw [hW10]; exact (Below.refl _ _).alloc (Nat.le_refl _) _
  -- what lies there
  have c1 : Kd.C kE W2 (some ⟨w.heap.size + 1, 0, none⟩) 2 [.num 1, .num 2] := by rw [hW2]; exact C_two kE W1 _ _ [_, _, _, _, _] [_, _, _, _, _] 24 (kE_leaf W1 1 none 0) (kE_leaf W1 2 none 0) _ s1
  have c3 : Kd.C kE W4 (some ⟨w.heap.size + 1 + 1 + 1, 0, none⟩) 1 [.var] := by rw [hW4]; exact C_one kE W3 _ [_, _, _, _, _] 24 (kE_var W3 none 0) _ s3
  have k4 : kE.K W4 (.two 0 (.num 1) (.num 2)) [.int .i64 5, .int .i64 1, .int .i64 0, .string ⟨#[]⟩, .slice (some ⟨w.heap.size + 1, 0, none⟩) 2 2] := kE_mk W4 (.two 0 (.num 1) (.num 2)) (Nat.le_refl 2) (Kd.C_below (Kd.C_below c1 b3) b4)
  have k5 : kE.K W4 (.neg .var) [.int .i64 4, .int .i64 20, .int .i64 0, .string ⟨#[]⟩, .slice (some ⟨w.heap.size + 1 + 1 + 1, 0, none⟩) 1 1] := kE_mk W4 (.neg .var) (Nat.le_refl 1) c3
  have c4 : Kd.C kE W5 (some ⟨w.heap.size + 1 + 1 + 1 + 1, 0, none⟩) 2 [.two 0 (.num 1) (.num 2), .neg .var] := by rw [hW5]; exact C_two kE W4 _ _ [_, _, _, _, _] [_, _, _, _, _] 24 k4 k5 _ s4
  have k6 : kE.K W6 (.two 2 (.two 0 (.num 1) (.num 2)) (.neg .var)) [.int .i64 5, .int .i64 3, .int .i64 0, .string ⟨#[]⟩, .slice (some ⟨w.heap.size + 1 + 1 + 1 + 1, 0, none⟩) 2 2] := kE_mk W6 (.two 2 _ _) (Nat.le_refl 2) (Kd.C_below c4 b6)
  have c6 : Kd.C kE W7 (some ⟨w.heap.size + 1 + 1 + 1 + 1 + 1 + 1, 0, none⟩) 1 [.two 2 (.two 0 (.num 1) (.num 2)) (.neg .var)] := by rw [hW7]; exact C_one kE W6 _ [_, _, _, _, _] 24 k6 _ s6
  have k7 : kS.K W7 (.set (.two 2 (.two 0 (.num 1) (.num 2)) (.neg .var))) [.int .i64 2, .int .i64 0, .string ⟨#[120]⟩, .slice (some ⟨w.heap.size + 1 + 1 + 1 + 1 + 1 + 1, 0, none⟩) 1 1, .slice none 0 0, .slice none 0 0] := kS_mk W7 (.set _) (Nat.le_refl 1) c6 (Nat.le_refl 0) (C_nil kS W7 none) (Nat.le_refl 0) (C_nil kS W7 none)
  have c7 : Kd.C kS W8 (some ⟨w.heap.size + 1 + 1 + 1 + 1 + 1 + 1 + 1, 0, none⟩) 1 [.set (.two 2 (.two 0 (.num 1) (.num 2)) (.neg .var))] := by rw [hW8]; exact C_one kS W7 _ [_, _, _, _, _, _] 27 k7 _ s7
  have k8 : kF.K W8 awakeF [.string ⟨#[102]⟩, .int .i64 2, .slice none 0 0, .slice (some ⟨w.heap.size + 1 + 1 + 1 + 1 + 1 + 1 + 1, 0, none⟩) 1 1] := kF_mk W8 awakeF (Nat.le_refl 1) c7
  have c8 : Kd.C kF W9 (some ⟨w.heap.size + 1 + 1 + 1 + 1 + 1 + 1 + 1 + 1, 0, none⟩) 1 [awakeF] := by rw [hW9]; exact C_one kF W8 _ [_, _, _, _] 30 k8 _ s8
  have c9 : Kd.C kF W10 (some ⟨w.heap.size + 1 + 1 + 1 + 1 + 1 + 1 + 1 + 1, 0, none⟩) 1 [awakeF] := Kd.C_below c8 b10
  have r10 : W10.heap[w.heap.size + 1 + 1 + 1 + 1 + 1 + 1 + 1 + 1 + 1]? = some (.cells #[.slice none 0 0, .slice (some ⟨w.heap.size + 1 + 1 + 1 + 1 + 1 + 1 + 1 + 1, 0, none⟩) 1 1] 34 (0, 0)) := by rw [hW10, ← s9]; exact heap_alloc_new W9 _
  have B10 : Below w.heap.size w W10 := by
    have h1 := b1.trans (b2.mono (by omega)); have h2 := h1.trans (b3.mono (by omega)); have h3 := h2.trans (b4.mono (by omega)); have h4 := h3.trans (b5.mono (by omega)); have h5 := h4.trans (b6.mono (by omega)); have h6 := h5.trans (b7.mono (by omega)); have h7 := h6.trans (b8.mono (by omega)); have h8 := h7.trans (b9.mono (by omega)); exact h8.trans (b10.mono (by omega))
  have HP : Aside0 (Calls Tryd.prog 4 #[.agg #[.slice none 0 0, .slice (some ⟨w.heap.size + 1 + 1 + 1 + 1 + 1 + 1 + 1 + 1, 0, none⟩) 1 1]] W10 fun e w' => e = .returned (.tuple #[.string ⟨#[98, 111, 111, 108, 32, 102, 40, 41, 32, 123, 10, 9, 120, 32, 61, 32, 40, 49, 32, 43, 32, 50, 41, 32, 42, 32, 45, 121, 59, 10, 125, 10]⟩, .int .i64 0]) ∧ Below W10.heap.size W10 w') := ⟨by
    have h := print_ok true (.set (.two 2 (.two 0 (.num 1) (.num 2)) (.neg .var))) rfl (by decide) (by show awakeF.text.length ≤ LIM; rw [awakeF_text]; decide) none 0 (some ⟨w.heap.size + 1 + 1 + 1 + 1 + 1 + 1 + 1 + 1, 0, none⟩) 1 W10 (C_nil k49 W10 none) c9
    rw [show (Fn1.fn true (.set (.two 2 (.two 0 (.num 1) (.num 2)) (.neg .var)))).text = _ from awakeF_text] at h
    exact h⟩
  have HR : Aside0 (∀ w', Below W10.heap.size W10 w' → Calls Tryd.prog 7 #[.agg #[.slice none 0 0, .slice (some ⟨w.heap.size + 1 + 1 + 1 + 1 + 1 + 1 + 1 + 1, 0, none⟩) 1 1]] w' fun e w'' => e = .returned (.bool true) ∧ Below w'.heap.size w' w'') := ⟨fun w' hb => right_calls awakeF none 0 _ 1 w' (C_nil k49 w' none) (Kd.C_below c9 hb)⟩
  have HF : Aside0 (∀ w', Calls Tryd.prog 7 #[.agg #[.slice none 0 0, .slice (some ⟨w'.heap.size, 0, none⟩) 1 1]] (w'.alloc (.cells #[.string ⟨#[]⟩, .int .i64 0, .slice none 0 0, .slice none 0 0] 30)) fun e w'' => e = .returned (.bool false) ∧ Below w'.heap.size w' w'') := ⟨fun w' => by
    have hk : kF.K w' .bad [.string ⟨#[]⟩, .int .i64 0, .slice none 0 0, .slice none 0 0] := kF_mk w' .bad (Nat.le_refl 0) (C_nil kS w' none)
    refine (right_calls .bad none 0 _ 1 _ (C_nil k49 _ none) (C_one kF w' .bad [_, _, _, _] 30 hk _ rfl)).mono ?_
    rintro e w'' ⟨rfl, h⟩
    exact ⟨rfl, (one_row h).2⟩⟩
  have HW1 := Aside0.mk hW1
  have HW2 := Aside0.mk hW2
  have HW3 := Aside0.mk hW3
  have HW4 := Aside0.mk hW4
  have HW5 := Aside0.mk hW5
  have HW6 := Aside0.mk hW6
  have HW7 := Aside0.mk hW7
  have HW8 := Aside0.mk hW8
  have HW9 := Aside0.mk hW9
  have HW10 := Aside0.mk hW10
  have HB10 := Aside0.mk B10
  have HR10 := Aside0.mk r10
  clear c1 c3 k4 k5 c4 k6 c6 k7 c7 k8 c8 c9 r10 B10 hW1 s1 b1 hW2 s2 b2 hW3 s3 b3 hW4 s4 b4 hW5 s5 b5 hW6 s6 b6 hW7 s7 b7 hW8 s8 b8 hW9 s9 b9 hW10 s10 b10
  go_enter Tryd.func6, Tryd.ntmps6
  go_wp2_with (first
    | (go_at_call 4; rw [← HW1.out, ← HW2.out, ← HW3.out, ← HW4.out, ← HW5.out, ← HW6.out, ← HW7.out, ← HW8.out, ← HW9.out, ← HW10.out]; refine HP.out.mono ?_; rintro e v1 ⟨rfl, hb1⟩; have Q1 := Aside0.mk hb1; have r1 := row_keep hb1 HR10.out; have x0 := cell_of_row _ _ 0 _ _ _ r1; have x1 := cell_of_row _ _ 1 _ _ _ r1; clear hb1 r1 HP; simp at x0 x1)
    | (go_at_call 7; refine (HR.out _ Q1.out).mono ?_; rintro e v2 ⟨rfl, hb2⟩; have Q2 := Aside0.mk (Q1.out.trans (hb2.mono Q1.out.size)); clear hb2 HR)
    | (go_at_call 7; refine (HF.out _).mono ?_; rintro e v3 ⟨rfl, hb3⟩))
  go_ret
  exact ⟨rfl, HB10.out.trans ((Q2.out.trans (hb3.mono Q2.out.size)).mono HB10.out.size)⟩
end Go.Proofs.YtijpghipfopplaaDoor.PDe
namespace Go.Proofs.YtijpghipfopplaaDoor.PDe
open Go.RowKit Go.Proofs.YtijpghipfopplaaDoorW.PrintWords

def negs : Nat → Ex | 0 => .num 0 | i + 1 => .neg (negs i)
def subs : Nat → Ex | 0 => .num 0 | i + 1 => .two 1 (.num 0) (subs i)
def whils : Nat → Bl | 0 => .nil | i + 1 => .whil (whils i)
def iffs : Nat → Bl | 0 => .nil | i + 1 => .iff (iffs i)
theorem negs_len : ∀ i, (negs i).text.length = i + 1
  | 0 => rfl
  | i + 1 => by
    have h := negs_len i
    have e : (negs (i + 1)).text = [45] ++ (if (negs i).low 11 then [40] ++ (negs i).text ++ [41] else (negs i).text) := rfl
    have el : (negs i).low 11 = false := by cases i <;> rfl
    rw [e, el, if_neg (by decide)]
    simp only [List.length_append, List.length_cons, List.length_nil, h]; omega
theorem part_len (x : Ex) (l : Int) : (x.part l).length ≤ x.text.length + 2 := by
  unfold Ex.part
  split
  · simp only [List.length_append, List.length_cons, List.length_nil]; omega
  · omega
theorem subs_len : ∀ i, (subs i).text.length ≤ 6 * i + 1
  | 0 => by decide
  | i + 1 => by
    have h := subs_len i
    have e : (subs (i + 1)).text = (Ex.num 0).part 9 ++ [32] ++ [45] ++ [32] ++ (subs i).part 10 := rfl
    have p := part_len (subs i) 10
    rw [e]
    have e0 : ((Ex.num 0).part 9).length = 1 := rfl
    simp only [List.length_append, List.length_cons, List.length_nil, e0]; omega
theorem tabsB_len (n : Nat) : (tabsB n).length = n := by unfold tabsB; rw [Lib.repeatL_length]; simp
theorem whils_len : ∀ i n, i + n ≤ 120 → ((whils i).text n).length ≤ 300 * i
  | 0, n, _ => by show 0 ≤ 300 * 0; omega
  | i + 1, n, h => by
    have ih := whils_len i (n + 1) (by omega)
    have e : (whils (i + 1)).text n = tabsB n ++ ([119, 104, 105, 108, 101, 32, 40] ++ [48] ++ [41, 32, 123]) ++ [10] ++ (whils i).text (n + 1) ++ (tabsB n ++ [125] ++ [10]) := rfl
    rw [e]
    simp only [List.length_append, List.length_cons, List.length_nil, tabsB_len]; omega
theorem iffs_len : ∀ i n, i + n ≤ 120 → ((iffs i).text n).length ≤ 500 * i
  | 0, n, _ => by show 0 ≤ 500 * 0; omega
  | 1, n, h => by
    have e : (iffs 1).text n = tabsB n ++ ([105, 102, 32, 40] ++ [48] ++ [41, 32, 123]) ++ [10] ++ [] ++ (tabsB n ++ [125] ++ [10]) := rfl
    rw [e]
    simp only [List.length_append, List.length_cons, List.length_nil, tabsB_len]; omega
  | i + 2, n, h => by
    have ih := iffs_len (i + 1) (n + 1) (by omega)
    have e : (iffs (i + 2)).text n = tabsB n ++ ([105, 102, 32, 40] ++ [48] ++ [41, 32, 123]) ++ [10] ++ (tabsB n ++ [125, 32, 101, 108, 115, 101, 32, 123] ++ [10] ++ (iffs (i + 1)).text (n + 1)) ++ (tabsB n ++ [125] ++ [10]) := rfl
    rw [e]
    simp only [List.length_append, List.length_cons, List.length_nil, tabsB_len]; omega
theorem whils_deep : ∀ i, (whils i).deep = i
  | 0 => rfl
  | i + 1 => by show (whils i).deep + 1 = i + 1; rw [whils_deep i]
theorem iffs_deep : ∀ i, (iffs i).deep = i
  | 0 => rfl
  | i + 1 => by show (iffs i).deep + 1 = i + 1; rw [iffs_deep i]
/-- The bodies that the law makes. -/
def body (r : Nat) (N : Nat) : Bl := match r with | 0 => .ret (negs N) | 1 => .ret (subs N) | 2 => whils N | _ => iffs N
theorem body_deep (r N : Nat) (h : N ≤ 110) : (body r N).deep ≤ 400 := by
  match r with
  | 0 => show 1 ≤ 400; omega
  | 1 => show 1 ≤ 400; omega
  | 2 => show (whils N).deep ≤ 400; rw [whils_deep]; omega
  | _ + 3 => show (iffs N).deep ≤ 400; rw [iffs_deep]; omega
theorem body_len (r N : Nat) (h : N ≤ 110) : (Fn1.fn false (body r N)).text.length ≤ LIM := by
  have e : (Fn1.fn false (body r N)).text = (Pt.kind false).text ++ [32] ++ [102] ++ [40] ++ [41, 32, 123, 10] ++ (body r N).text 1 ++ (tabsB 0 ++ [125] ++ [10]) := rfl
  have e1 : (Pt.kind false).text.length = 3 := rfl
  have hb : ((body r N).text 1).length ≤ 60000 := by
    match r with
    | 0 =>
      have e2 : (body 0 N).text 1 = tabsB 1 ++ ([114, 101, 116, 117, 114, 110, 32] ++ (negs N).text ++ [59]) ++ [10] := rfl
      have := negs_len N
      rw [e2]; simp only [List.length_append, List.length_cons, List.length_nil, tabsB_len]; omega
    | 1 =>
      have e2 : (body 1 N).text 1 = tabsB 1 ++ ([114, 101, 116, 117, 114, 110, 32] ++ (subs N).text ++ [59]) ++ [10] := rfl
      have := subs_len N
      rw [e2]; simp only [List.length_append, List.length_cons, List.length_nil, tabsB_len]; omega
    | 2 => have := whils_len N 1 (by omega); show ((whils N).text 1).length ≤ _; omega
    | _ + 3 => have := iffs_len N 1 (by omega); show ((iffs N).text 1).length ≤ _; omega
  rw [e]
  unfold LIM
  simp only [List.length_append, List.length_cons, List.length_nil, tabsB_len, e1]; omega
/-- Both texts, or no text: what the two prints give. -/
def outS (f : Fn1) : ByteArray := if f.ok = true then ⟨f.text.toArray⟩ else ⟨#[]⟩
def outE (f : Fn1) : Int := if f.ok = true then 0 else 1
theorem print_any (r N : Nat) (h : N ≤ 110) (A0 : Option Addr) (c0 : Nat) (A1 : Option Addr) (c1 : Nat) (w : World) (h0 : Kd.C k49 w A0 0 []) (h1 : Kd.C kF w A1 1 [.fn false (body r N)]) :
    Calls Tryd.prog 4 #[.agg #[.slice A0 0 c0, .slice A1 1 c1]] w fun e w' => e = .returned (.tuple #[.string (outS (.fn false (body r N))), .int .i64 (outE (.fn false (body r N)))]) ∧ Below w.heap.size w w' := by
  cases hf : (Fn1.fn false (body r N)).ok with
  | true =>
    unfold outS outE
    rw [hf, if_pos rfl, if_pos rfl]
    exact print_ok false _ hf (body_deep r N h) (body_len r N h) A0 c0 A1 c1 w h0 h1
  | false =>
    unfold outS outE
    rw [hf, if_neg (by decide), if_neg (by decide)]
    exact print_bad _ hf A0 c0 A1 c1 w h0 h1
theorem rprint_any (r N : Nat) (h : N ≤ 110) (A0 : Option Addr) (c0 : Nat) (A1 : Option Addr) (c1 : Nat) (w : World) (h0 : Kd.C k49 w A0 0 []) (h1 : Kd.C kF w A1 1 [.fn false (body r N)]) :
    Calls Tryd.prog 5 #[.agg #[.slice A0 0 c0, .slice A1 1 c1]] w fun e w' => e = .returned (.tuple #[.string (outS (.fn false (body r N))), .int .i64 (outE (.fn false (body r N)))]) ∧ Below w.heap.size w w' := by
  cases hf : (Fn1.fn false (body r N)).ok with
  | true =>
    unfold outS outE
    rw [hf, if_pos rfl, if_pos rfl]
    exact rprint_ok false _ hf (body_deep r N h) (body_len r N h) A0 c0 A1 c1 w h0 h1
  | false =>
    unfold outS outE
    rw [hf, if_neg (by decide), if_neg (by decide)]
    exact rprint_bad _ hf A0 c0 A1 c1 w h0 h1
/-- One element, in a row that lies somewhere. -/
theorem C_row1 {α : Type} (d : Kd α) (w : World) (x : α) (cs : List Value) (T : TypeId) (b : Nat) (hb : w.heap[b]? = some (.cells cs.toArray T (0, 0))) (hK : d.K w x cs) : Kd.C d w (some ⟨b, 0, none⟩) 1 [x] := by
  refine ⟨rfl, by omega, fun _ => ⟨_, rfl, fun j p hp => ?_⟩⟩
  cases j with
  | succ j => simp at hp
  | zero =>
    simp at hp; subst hp
    refine ⟨cs, d.K_len hK, hK, fun i u hu => ?_⟩
    rw [Nat.zero_mul, Nat.zero_add, add_plain, cell_of_row _ _ i _ _ _ hb]
    simpa using hu
theorem C_row2 {α : Type} (d : Kd α) (w : World) (x y : α) (cs ds : List Value) (T : TypeId) (b : Nat) (hb : w.heap[b]? = some (.cells (cs ++ ds).toArray T (0, 0))) (hK : d.K w x cs) (hL : d.K w y ds) : Kd.C d w (some ⟨b, 0, none⟩) 2 [x, y] := by
  have hl := d.K_len hK
  refine ⟨rfl, by omega, fun _ => ⟨_, rfl, fun j p hp => ?_⟩⟩
  match j with
  | 0 =>
    simp at hp; subst hp
    refine ⟨cs, hl, hK, fun i u hu => ?_⟩
    rw [Nat.zero_mul, Nat.zero_add, add_plain, cell_of_row _ _ i _ _ _ hb]
    have := List.getElem?_append_left (l₂ := ds) (List.getElem?_eq_some_iff.1 hu).1
    simpa [this] using hu
  | 1 =>
    simp at hp; subst hp
    refine ⟨ds, d.K_len hL, hL, fun i u hu => ?_⟩
    rw [Nat.one_mul, add_plain, cell_of_row _ _ _ _ _ _ hb]
    have := List.getElem?_append_right (l₁ := cs) (l₂ := ds) (i := d.sz + i) (by omega)
    rw [← hl, Nat.add_sub_cancel_left, hl] at this
    simpa [this] using hu
  | j + 2 => simp at hp
/-- An expression that the law laid, away from block E. -/
def Lay (E : Nat) (w : World) : Ex → List Value → Prop
  | .num n, cs => cs = [.int .i64 1, .int .i64 0, .int .i64 (dig n), .string ⟨#[]⟩, .slice none 0 0]
  | .var, cs => cs = [.int .i64 3, .int .i64 0, .int .i64 0, .string ⟨#[121]⟩, .slice none 0 0]
  | .neg e, cs => ∃ b ce, b ≠ E ∧ w.heap[b]? = some (.cells (ce : List Value).toArray 24 (0, 0)) ∧ Lay E w e ce ∧ cs = [.int .i64 4, .int .i64 20, .int .i64 0, .string ⟨#[]⟩, .slice (some ⟨b, 0, none⟩) 1 1]
  | .two o x y, cs => ∃ b cx cy, b ≠ E ∧ w.heap[b]? = some (.cells (cx ++ cy : List Value).toArray 24 (0, 0)) ∧ Lay E w x cx ∧ Lay E w y cy ∧ cs = [.int .i64 5, .int .i64 (opI o), .int .i64 0, .string ⟨#[]⟩, .slice (some ⟨b, 0, none⟩) 2 2]
theorem Lay.move {E : Nat} {w w1 : World} (h : ∀ b, b ≠ E → b < w.heap.size → w1.heap[b]? = w.heap[b]?) : ∀ {x : Ex} {cs : List Value}, Lay E w x cs → Lay E w1 x cs
  | .num n, cs, k => k
  | .var, cs, k => k
  | .neg e, cs, k => by
    obtain ⟨b, ce, h1, h2, h3, h4⟩ := k
    exact ⟨b, ce, h1, (h b h1 (Array.getElem?_eq_some_iff.1 h2).1).trans h2, Lay.move h h3, h4⟩
  | .two o x y, cs, k => by
    obtain ⟨b, cx, cy, h1, h2, h3, h4, h5⟩ := k
    exact ⟨b, cx, cy, h1, (h b h1 (Array.getElem?_eq_some_iff.1 h2).1).trans h2, Lay.move h h3, Lay.move h h4, h5⟩
theorem Lay.K {E : Nat} {w : World} : ∀ {x : Ex} {cs : List Value}, Lay E w x cs → kE.K w x cs
  | .num n, cs, k => by obtain rfl := k; exact kE_leaf w n none 0
  | .var, cs, k => by obtain rfl := k; exact kE_var w none 0
  | .neg e, cs, k => by
    obtain ⟨b, ce, h1, h2, h3, rfl⟩ := k
    exact kE_mk w (.neg e) (Nat.le_refl 1) (C_row1 kE w e ce 24 b h2 h3.K)
  | .two o x y, cs, k => by
    obtain ⟨b, cx, cy, h1, h2, h3, h4, rfl⟩ := k
    exact kE_mk w (.two o x y) (Nat.le_refl 2) (C_row2 kE w x y cx cy 24 b h2 h3.K h4.K)
end Go.Proofs.YtijpghipfopplaaDoor.PDe
