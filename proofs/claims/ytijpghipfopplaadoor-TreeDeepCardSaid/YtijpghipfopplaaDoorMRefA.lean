/- The reference's text of an expression. The reference's text of statements. -/
import Derived.Test.YtijpghipfopplaaDoorMPutB
import Derived.Test.YtijpghipfopplaaDoorPDex4
import Derived.Test.YtijpghipfopplaaDoorPDex5
import Derived.Test.YtijpghipfopplaaDoorPDex11
set_option linter.unusedVariables false
set_option linter.unusedSimpArgs false
namespace Go.Proofs.YtijpghipfopplaaDoor.PDe
open Go.RowKit Go.Proofs.YtijpghipfopplaaDoorW.PrintWords

theorem ba_app (a b : List UInt8) : (⟨a.toArray⟩ : ByteArray) ++ ⟨b.toArray⟩ = ⟨(a ++ b).toArray⟩ := by
  apply ByteArray.ext
  simp [ByteArray.data_append]
def rT (x : Ex) : Prop := ∀ (w : World) (cs : List Value), kE.K w x cs → x.text.length ≤ LIM →
  Calls Tryd.prog 31 #[.agg cs.toArray] w fun e w' => e = .returned (.string ⟨x.text.toArray⟩) ∧ Below w.heap.size w w'
def rP (x : Ex) (l : Int) : Prop := ∀ (w : World) (cs : List Value), kE.K w x cs → (x.part l).length ≤ LIM →
  Calls Tryd.prog 56 #[.agg cs.toArray, .int .i64 l] w fun e w' => e = .returned (.string ⟨(x.part l).toArray⟩) ∧ Below w.heap.size w w'
theorem rlevel (o : Nat) (w : World) : Calls Tryd.prog 57 #[.int .i64 (opI o)] w fun e w' => e = .returned (.int .i64 (lvN o)) ∧ Below w.heap.size w w' := by
  refine (boxhedgeref01_Level.calls 5 (opI o) (lvN o) w (by match o with | 0 => rfl | 1 => rfl | _ + 2 => rfl)).mono ?_
  rintro e w' ⟨rfl, ⟨n, rfl⟩⟩
  exact ⟨rfl, below_drewN (Below.refl _ _) n⟩
theorem sign_f : ∀ o : Nat, boxhedgeref01_Sign.f (opI o) = some ⟨(sgN o).toArray⟩
  | 0 => by show boxhedgeref01_Sign.f 1 = some ⟨#[43]⟩; kernel_rfl
  | 1 => by show boxhedgeref01_Sign.f 2 = some ⟨#[45]⟩; kernel_rfl
  | _ + 2 => by show boxhedgeref01_Sign.f 3 = some ⟨#[42]⟩; kernel_rfl
theorem digits_f : ∀ n : Nat, boxhedgeref03_Digits.f 5 (dig n) = some ⟨(digT n).toArray⟩
  | 0 => by show boxhedgeref03_Digits.f 5 0 = some ⟨#[48]⟩; kernel_rfl
  | 1 => by show boxhedgeref03_Digits.f 5 1 = some ⟨#[49]⟩; kernel_rfl
  | _ + 2 => by show boxhedgeref03_Digits.f 5 2 = some ⟨#[50]⟩; kernel_rfl
theorem rsign (o : Nat) (w : World) : Calls Tryd.prog 55 #[.int .i64 (opI o)] w fun e w' => e = .returned (.string ⟨(sgN o).toArray⟩) ∧ Below w.heap.size w w' :=
  boxhedgeref01_Sign.calls (opI o) _ w (sign_f o)
theorem rneg (w : World) : Calls Tryd.prog 55 #[.int .i64 20] w fun e w' => e = .returned (.string ⟨#[45]⟩) ∧ Below w.heap.size w w' :=
  boxhedgeref01_Sign.calls 20 _ w (by kernel_rfl)
theorem rdigits (n : Nat) (w : World) : Calls Tryd.prog 13 #[.int .i64 (dig n)] w fun e w' => e = .returned (.string ⟨(digT n).toArray⟩) ∧ Below w.heap.size w w' :=
  boxhedgeref03_Digits.calls 5 (dig n) _ w (digits_f n)
set_option maxHeartbeats 2000000 in
set_option maxRecDepth 100000 in
theorem rp_plain (x : Ex) (l : Int) (hx : (x.kind == 5) = false) (hT : rT x) : rP x l := by
  intro w cs hK hlen
  have hlow : x.part l = x.text := by cases x <;> first | rfl | (simp [Ex.kind] at hx)
  rw [hlow] at hlen ⊢
  have hu24 := Tryd.underlying24
  obtain ⟨A, c, rfl, _⟩ := kE_open hK
  have HC : Aside0 (∀ w', Below w.heap.size w w' → Calls Tryd.prog 31 #[.agg #[.int .i64 x.kind, .int .i64 x.op, .int .i64 x.n, .string x.nm, .slice A x.args.length c]] w' fun e w'' => e = .returned (.string ⟨x.text.toArray⟩) ∧ Below w'.heap.size w' w'') := ⟨fun w' hb => hT w' _ (kE.K_below hb hK) hlen⟩
  clear hT hK hlen hlow
  generalize x.kind = K at *; generalize x.op = O at *; generalize x.n = N at *; generalize x.nm = S at *; generalize x.args.length = L at *
  generalize x.text.toArray = T at *
  go_enter Tryd.func56, Tryd.ntmps56
  go_wp2_with (first | (go_at_call 31; refine (HC.out _ ((Below.refl _ w).alloc (Nat.le_refl _) _)).mono ?_; rintro e w1 ⟨rfl, hb1⟩))
  go_ret
  exact ⟨rfl, (one_row hb1).2⟩
set_option maxHeartbeats 2000000 in
set_option maxRecDepth 100000 in
theorem rp_two (o : Nat) (x y : Ex) (l : Int) (hT : rT (.two o x y)) : rP (.two o x y) l := by
  intro w cs hK hlen
  have hu24 := Tryd.underlying24
  obtain ⟨A, c, rfl, _⟩ := kE_open hK
  have HLV := fun w => rlevel o w
  have HC : Aside0 (∀ w', (Ex.two o x y).text.length ≤ LIM → Below w.heap.size w w' → Calls Tryd.prog 31 #[.agg #[.int .i64 5, .int .i64 (opI o), .int .i64 0, .string ⟨#[]⟩, .slice A 2 c]] w' fun e w'' => e = .returned (.string ⟨(Ex.two o x y).text.toArray⟩) ∧ Below w'.heap.size w' w'') := ⟨fun w' hlen hb => hT w' _ (kE.K_below hb hK) hlen⟩
  have e1 : (Ex.two o x y).part l = if (decide (lvN o < l)) = true then [40] ++ (Ex.two o x y).text ++ [41] else (Ex.two o x y).text := rfl
  rw [e1] at hlen ⊢
  clear hT hK e1
  show Calls Tryd.prog 56 #[.agg #[.int .i64 5, .int .i64 (opI o), .int .i64 0, .string ⟨#[]⟩, .slice A 2 c], .int .i64 l] w _
  generalize (Ex.two o x y).text = T at *
  generalize opI o = O at *
  generalize lvN o = V at *
  cases hlow : decide (V < l) with
  | true =>
    rw [hlow, if_pos rfl] at hlen
    rw [if_pos rfl, ← ba_app, ← ba_app]
    have HL := Aside0.mk hlen
    have l1 : T.length ≤ LIM := by simp only [List.length_append] at hlen; omega
    have l2 : T.length + 2 ≤ 1000000 := by unfold LIM at hlen; simp only [List.length_append, List.length_cons, List.length_nil] at hlen; omega
    have l3 : (⟨T.toArray⟩ : ByteArray).size + 2 ≤ 1000000 := by show T.toArray.size + 2 ≤ _; simpa using l2
    have HL1 := Aside0.mk l1
    clear hlen l1 l2
    generalize (⟨T.toArray⟩ : ByteArray) = TB at *
    go_enter Tryd.func56, Tryd.ntmps56
    go_wp2_with (first
      | (go_at_call 57; refine (HLV _).mono ?_; rintro e w1 ⟨rfl, hb1⟩; obtain ⟨p0, B1⟩ := one_row hb1; have q0 := p0 0; have q1 := p0 1; have q2 := p0 2; have q3 := p0 3; have q4 := p0 4; clear p0 hb1; simp at q0 q1 q2 q3 q4)
      | (go_at_call 31; refine (HC.out _ HL1.out B1).mono ?_; rintro e w2 ⟨rfl, hb2⟩))
    go_ret
    exact ⟨rfl, B1.trans (hb2.mono B1.size)⟩
  | false =>
    rw [hlow, if_neg (by decide)] at hlen
    rw [if_neg (by decide)]
    have HL1 := Aside0.mk hlen
    clear hlen
    generalize (⟨T.toArray⟩ : ByteArray) = TB at *
    go_enter Tryd.func56, Tryd.ntmps56
    go_wp2_with (first
      | (go_at_call 57; refine (HLV _).mono ?_; rintro e w1 ⟨rfl, hb1⟩; obtain ⟨p0, B1⟩ := one_row hb1; have q0 := p0 0; have q1 := p0 1; have q2 := p0 2; have q3 := p0 3; have q4 := p0 4; clear p0 hb1; simp at q0 q1 q2 q3 q4)
      | (go_at_call 31; refine (HC.out _ HL1.out B1).mono ?_; rintro e w2 ⟨rfl, hb2⟩))
    go_ret
    exact ⟨rfl, B1.trans (hb2.mono B1.size)⟩
theorem rp_calls (x : Ex) (l : Int) (hT : rT x) : rP x l := by
  cases x with
  | num n => exact rp_plain _ l rfl hT
  | var => exact rp_plain _ l rfl hT
  | neg e => exact rp_plain _ l rfl hT
  | two o a b => exact rp_two o a b l hT
set_option maxHeartbeats 2000000 in
set_option maxRecDepth 100000 in
theorem rt_num (n : Nat) : rT (.num n) := by
  intro w cs hK hlen
  have hu24 := Tryd.underlying24
  obtain ⟨A, c, rfl, _⟩ := kE_open hK
  have HD := fun w => rdigits n w
  clear hK hlen
  show Calls Tryd.prog 31 #[.agg #[.int .i64 1, .int .i64 0, .int .i64 (dig n), .string ⟨#[]⟩, .slice A 0 c]] w fun e w' => e = .returned (.string ⟨(digT n).toArray⟩) ∧ Below w.heap.size w w'
  generalize dig n = D at *
  generalize (digT n).toArray = T at *
  go_enter Tryd.func31, Tryd.ntmps31
  go_wp2_with (first | (go_at_call 13; refine (HD _).mono ?_; rintro e w1 ⟨rfl, hb1⟩))
  go_ret
  exact ⟨rfl, (one_row hb1).2⟩
set_option maxHeartbeats 2000000 in
set_option maxRecDepth 100000 in
theorem rt_var : rT .var := by
  intro w cs hK hlen
  have hu24 := Tryd.underlying24
  obtain ⟨A, c, rfl, _⟩ := kE_open hK
  clear hK hlen
  show Calls Tryd.prog 31 #[.agg #[.int .i64 3, .int .i64 0, .int .i64 0, .string ⟨#[121]⟩, .slice A 0 c]] w fun e w' => e = .returned (.string ⟨#[121]⟩) ∧ Below w.heap.size w w'
  go_enter Tryd.func31, Tryd.ntmps31
  go_wp2
  go_ret
  exact ⟨rfl, (Below.refl _ w).alloc (Nat.le_refl _) _⟩
set_option maxHeartbeats 2000000 in
set_option maxRecDepth 100000 in
theorem rt_neg (e : Ex) (hT : rT e) : rT (.neg e) := by
  intro w cs hK hlen
  have hu24 := Tryd.underlying24
  obtain ⟨A, c, rfl, hc, hC⟩ := kE_open hK
  obtain ⟨ad, ecs, rfl, hKe, hld⟩ := parts_at hC 0 e rfl
  obtain ⟨A2, c2, rfl, _⟩ := kE_open hKe
  have l1 : (e.part 11).length + 1 ≤ 1000000 := by have h : ([45] ++ e.part 11).length ≤ LIM := hlen; unfold LIM at h; simp only [List.length_append, List.length_cons, List.length_nil] at h; omega
  have l2 : (e.part 11).length ≤ LIM := by unfold LIM; omega
  have hP := rp_calls e 11 hT
  have HLD : Aside0 (∀ w1, Below w.heap.size w w1 → Five ad (.int .i64 e.kind) (.int .i64 e.op) (.int .i64 e.n) (.string e.nm) (.slice A2 e.args.length c2) w1) := ⟨fun w1 h => five_at (hld w1 h)⟩
  have HC : Aside0 (∀ w', Below w.heap.size w w' → Calls Tryd.prog 56 #[.agg #[.int .i64 e.kind, .int .i64 e.op, .int .i64 e.n, .string e.nm, .slice A2 e.args.length c2], .int .i64 11] w' fun r w'' => r = .returned (.string ⟨(e.part 11).toArray⟩) ∧ Below w'.heap.size w' w'') := ⟨fun w' hb => hP w' _ (kE.K_below hb hKe) l2⟩
  have HSG := fun w => rneg w
  have l3 : (⟨(e.part 11).toArray⟩ : ByteArray).size + 1 ≤ 1000000 := by show (e.part 11).toArray.size + 1 ≤ _; simpa using l1
  clear hK hC hKe hld hP hT hc l1 l2 hlen
  have eT : (⟨(Ex.neg e).text.toArray⟩ : ByteArray) = ⟨#[45]⟩ ++ ⟨(e.part 11).toArray⟩ := (ba_app [45] (e.part 11)).symm
  rw [eT]
  clear eT
  show Calls Tryd.prog 31 #[.agg #[.int .i64 4, .int .i64 20, .int .i64 0, .string ⟨#[]⟩, .slice (some ad) 1 c]] w fun r w' => r = .returned (.string (⟨#[45]⟩ ++ ⟨(e.part 11).toArray⟩)) ∧ Below w.heap.size w w'
  generalize e.kind = K at *; generalize e.op = O at *; generalize e.n = N at *; generalize e.nm = S at *; generalize e.args.length = L at *
  generalize (⟨(e.part 11).toArray⟩ : ByteArray) = TB at *
  go_enter Tryd.func31, Tryd.ntmps31
  go_wp2
  obtain ⟨W, hW⟩ : ∃ W, W = w.alloc (.cells #[.int .i64 4, .int .i64 20, .int .i64 0, .string ⟨#[]⟩, .slice (some ad) 1 c] 24) := ⟨_, rfl⟩
  rw [← hW]
  have HB : Below w.heap.size w W := by rw [hW]; exact (Below.refl _ w).alloc (Nat.le_refl _) _
  have HROW : W.heap[w.heap.size]? = some (.cells #[.int .i64 4, .int .i64 20, .int .i64 0, .string ⟨#[]⟩, .slice (some ad) 1 c] 24 (0, 0)) := by rw [hW]; exact heap_alloc_new w _
  have f1 : W.cell? ⟨w.heap.size, 1, none⟩ = some (.int .i64 20) := cell_of_row _ _ 1 _ _ _ HROW
  have f4 : W.cell? ⟨w.heap.size, 4, none⟩ = some (.slice (some ad) 1 c) := cell_of_row _ _ 4 _ _ _ HROW
  have hlt : w.heap.size < W.heap.size := (Array.getElem?_eq_some_iff.1 HROW).1
  obtain ⟨a0, a1, a2, a3, a4⟩ := HLD.out _ HB
  have HBB := Aside0.mk HB
  clear HB hW HROW
  have q1 : ¬ 9223372036854775807 < 1 + TB.size := by omega
  go_region_held3 (fun w' => w'.cell? ⟨w.heap.size, 1, none⟩ = some (.int .i64 20) ∧ w'.cell? ⟨w.heap.size, 4, none⟩ = some (.slice (some ad) 1 c) ∧
      w'.cell? ad = some (.int .i64 K) ∧ w'.cell? ⟨ad.block, ad.off + 1, none⟩ = some (.int .i64 O) ∧ w'.cell? ⟨ad.block, ad.off + 2, none⟩ = some (.int .i64 N) ∧ w'.cell? ⟨ad.block, ad.off + 3, none⟩ = some (.string S) ∧ w'.cell? ⟨ad.block, ad.off + 4, none⟩ = some (.slice A2 L c2)) (first | exact ⟨f1, f4, a0, a1, a2, a3, a4⟩ | exact ⟨z1, z4, y0, y1, y2, y3, y4⟩ | exact ⟨v1, v4, u0, u1, u2, u3, u4⟩ | go_keep)
      (first
        | (go_at_call 55; refine (HSG _).mono ?_; rintro e w1 ⟨rfl, hb1⟩; have z1 := (hb1.cell (p := ⟨w.heap.size, 1, none⟩) hlt).trans f1; have z4 := (hb1.cell (p := ⟨w.heap.size, 4, none⟩) hlt).trans f4; have B1 := HBB.out.drew.trans (hb1.mono (Nat.le_of_lt hlt)); obtain ⟨y0, y1, y2, y3, y4⟩ := HLD.out w1 B1; have hlt1 : w.heap.size < w1.heap.size := block_lt_of_cell z1)
        | (go_at_call 56; refine (HC.out _ B1).mono ?_; rintro e w2 ⟨rfl, hb2⟩; have v1 := (hb2.cell (p := ⟨w.heap.size, 1, none⟩) hlt1).trans z1; have v4 := (hb2.cell (p := ⟨w.heap.size, 4, none⟩) hlt1).trans z4; have B2 := B1.trans (hb2.mono (Nat.le_of_lt hlt1)); obtain ⟨u0, u1, u2, u3, u4⟩ := HLD.out w2 B2))
  go_wp2
  go_ret
  exact ⟨rfl, B2⟩
set_option maxHeartbeats 4000000 in
set_option maxRecDepth 100000 in
theorem rt_two (o : Nat) (e f : Ex) (hT : rT e) (hT2 : rT f) : rT (.two o e f) := by
  intro w cs hK hlen
  have hu24 := Tryd.underlying24
  have hlv := lvN_bd o
  obtain ⟨A, c, rfl, hc, hC⟩ := kE_open hK
  obtain ⟨ad, ecs, hA1, hKe, hld⟩ := parts_at hC 0 e rfl
  obtain ⟨ad', fcs, hA2, hKf, hlf⟩ := parts_at hC 1 f rfl
  subst hA1
  obtain rfl := Option.some.inj hA2
  obtain ⟨A2, c2, rfl, _⟩ := kE_open hKe
  obtain ⟨A3, c3, rfl, _⟩ := kE_open hKf
  have eT0 : (Ex.two o e f).text = e.part (lvN o) ++ [32] ++ sgN o ++ [32] ++ f.part (lvN o + 1) := rfl
  rw [eT0] at hlen ⊢
  clear eT0
  have l0 := hlen
  unfold LIM at l0
  simp only [List.length_append, List.length_cons, List.length_nil] at l0
  have l1 : (e.part (lvN o)).length ≤ LIM := by unfold LIM; omega
  have l2 : (f.part (lvN o + 1)).length ≤ LIM := by unfold LIM; omega
  have hP := rp_calls e (lvN o) hT
  have hP2 := rp_calls f (lvN o + 1) hT2
  have HLD : Aside0 (∀ w1, Below w.heap.size w w1 → Five ad (.int .i64 e.kind) (.int .i64 e.op) (.int .i64 e.n) (.string e.nm) (.slice A2 e.args.length c2) w1) := ⟨fun w1 h => five_at (hld w1 h)⟩
  have HLF : Aside0 (∀ w1, Below w.heap.size w w1 → Five (ad.add 5) (.int .i64 f.kind) (.int .i64 f.op) (.int .i64 f.n) (.string f.nm) (.slice A3 f.args.length c3) w1) := ⟨fun w1 h => five_at (hlf w1 h)⟩
  have HC : Aside0 (∀ w', Below w.heap.size w w' → Calls Tryd.prog 56 #[.agg #[.int .i64 e.kind, .int .i64 e.op, .int .i64 e.n, .string e.nm, .slice A2 e.args.length c2], .int .i64 (lvN o)] w' fun r w'' => r = .returned (.string ⟨(e.part (lvN o)).toArray⟩) ∧ Below w'.heap.size w' w'') := ⟨fun w' hb => hP w' _ (kE.K_below hb hKe) l1⟩
  have HC2 : Aside0 (∀ w', Below w.heap.size w w' → Calls Tryd.prog 56 #[.agg #[.int .i64 f.kind, .int .i64 f.op, .int .i64 f.n, .string f.nm, .slice A3 f.args.length c3], .int .i64 (lvN o + 1)] w' fun r w'' => r = .returned (.string ⟨(f.part (lvN o + 1)).toArray⟩) ∧ Below w'.heap.size w' w'') := ⟨fun w' hb => hP2 w' _ (kE.K_below hb hKf) l2⟩
  have HLV := fun w => rlevel o w
  have HSG := fun w => rsign o w
  have l3 : (⟨(e.part (lvN o)).toArray⟩ : ByteArray).size + (⟨(sgN o).toArray⟩ : ByteArray).size + (⟨(f.part (lvN o + 1)).toArray⟩ : ByteArray).size + 2 ≤ 1000000 := by
    show (e.part (lvN o)).toArray.size + (sgN o).toArray.size + (f.part (lvN o + 1)).toArray.size + 2 ≤ _
    simp only [List.size_toArray]; omega
  clear hK hC hKe hld hP hT hc l1 l2 hlen l0 hlf hKf hP2 hT2 hA2
  rw [← ba_app, ← ba_app, ← ba_app, ← ba_app]
  show Calls Tryd.prog 31 #[.agg #[.int .i64 5, .int .i64 (opI o), .int .i64 0, .string ⟨#[]⟩, .slice (some ad) 2 c]] w _
  generalize e.kind = K at *; generalize e.op = O at *; generalize e.n = N at *; generalize e.nm = S at *; generalize e.args.length = L at *
  generalize f.kind = K' at *; generalize f.op = O' at *; generalize f.n = N' at *; generalize f.nm = S' at *; generalize f.args.length = L' at *
  generalize (⟨(e.part (lvN o)).toArray⟩ : ByteArray) = TE at *
  generalize (⟨(f.part (lvN o + 1)).toArray⟩ : ByteArray) = TF at *
  generalize (⟨(sgN o).toArray⟩ : ByteArray) = SG at *
  generalize opI o = OP at *; generalize lvN o = V at *
  have hwr : IntKind.i64.wrap (V + 1) = V + 1 := IntWalk.i64_in _ (by omega)
  have HWR := Aside0.mk hwr
  clear hwr
  go_enter Tryd.func31, Tryd.ntmps31
  obtain ⟨W, hW⟩ : ∃ W, W = w.alloc (.cells #[.int .i64 5, .int .i64 OP, .int .i64 0, .string ⟨#[]⟩, .slice (some ad) 2 c] 24) := ⟨_, rfl⟩
  have HB : Below w.heap.size w W := by rw [hW]; exact (Below.refl _ w).alloc (Nat.le_refl _) _
  have HROW : Aside0 (W.heap[w.heap.size]? = some (.cells #[.int .i64 5, .int .i64 OP, .int .i64 0, .string ⟨#[]⟩, .slice (some ad) 2 c] 24 (0, 0))) := ⟨by rw [hW]; exact heap_alloc_new w _⟩
  have hlt : w.heap.size < W.heap.size := (Array.getElem?_eq_some_iff.1 HROW.out).1
  have HW := Aside0.mk hW
  have HBB := Aside0.mk HB
  clear HB hW
  go_wp2_with (first
    | (go_at_call 57; rw [← HW.out]; refine (HLV _).mono ?_; rintro e w1 ⟨rfl, hb1⟩; have B1 := HBB.out.trans (hb1.mono (Nat.le_of_lt hlt)); have r1 := (hb1.block _ hlt).trans HROW.out; have hlt1 : w.heap.size < w1.heap.size := (Array.getElem?_eq_some_iff.1 r1).1))
  have x1 : w1.cell? ⟨w.heap.size, 1, none⟩ = some (.int .i64 OP) := cell_of_row _ _ 1 _ _ _ r1
  have x4 : w1.cell? ⟨w.heap.size, 4, none⟩ = some (.slice (some ad) 2 c) := cell_of_row _ _ 4 _ _ _ r1
  obtain ⟨a0, a1, a2, a3, a4⟩ := HLD.out w1 B1
  obtain ⟨b0, b1, b2, b3, b4⟩ := HLF.out w1 B1
  have HB1 := Aside0.mk B1
  clear B1 r1 hb1 HLV
  have hwr := HWR.out
  have q1 : ¬ 9223372036854775807 < TE.size + 1 := by omega
  have q2 : ¬ 9223372036854775807 < TE.size + 1 + SG.size := by omega
  have q3 : ¬ 9223372036854775807 < TE.size + 1 + SG.size + 1 := by omega
  have q4 : ¬ 9223372036854775807 < TE.size + 1 + SG.size + 1 + TF.size := by omega
  go_region_held3 (fun w' => w'.cell? ⟨w.heap.size, 1, none⟩ = some (.int .i64 OP) ∧ w'.cell? ⟨w.heap.size, 4, none⟩ = some (.slice (some ad) 2 c) ∧
      w'.cell? ad = some (.int .i64 K) ∧ w'.cell? ⟨ad.block, ad.off + 1, none⟩ = some (.int .i64 O) ∧ w'.cell? ⟨ad.block, ad.off + 2, none⟩ = some (.int .i64 N) ∧ w'.cell? ⟨ad.block, ad.off + 3, none⟩ = some (.string S) ∧ w'.cell? ⟨ad.block, ad.off + 4, none⟩ = some (.slice A2 L c2) ∧
      w'.cell? ⟨ad.block, ad.off + 5, none⟩ = some (.int .i64 K') ∧ w'.cell? ⟨ad.block, ad.off + 5 + 1, none⟩ = some (.int .i64 O') ∧ w'.cell? ⟨ad.block, ad.off + 5 + 2, none⟩ = some (.int .i64 N') ∧ w'.cell? ⟨ad.block, ad.off + 5 + 3, none⟩ = some (.string S') ∧ w'.cell? ⟨ad.block, ad.off + 5 + 4, none⟩ = some (.slice A3 L' c3)) (first | exact ⟨x1, x4, a0, a1, a2, a3, a4, b0, b1, b2, b3, b4⟩ | exact ⟨z1, z4, y0, y1, y2, y3, y4, u0, u1, u2, u3, u4⟩ | go_keep)
      (first
        | (go_at_call 56; refine (HC.out _ HB1.out.drew).mono ?_; rintro e w2 ⟨rfl, hb2⟩; have B2 := Aside0.mk (HB1.out.drew.trans (hb2.mono (Nat.le_of_lt hlt1))); have z1 := (hb2.cell (p := ⟨w.heap.size, 1, none⟩) hlt1).trans x1; have z4 := (hb2.cell (p := ⟨w.heap.size, 4, none⟩) hlt1).trans x4; have hlt2 : w.heap.size < w2.heap.size := block_lt_of_cell z1; obtain ⟨y0, y1, y2, y3, y4⟩ := HLD.out w2 B2.out; obtain ⟨u0, u1, u2, u3, u4⟩ := HLF.out w2 B2.out; clear HC hb2 x1 x4 a0 a1 a2 a3 a4 b0 b1 b2 b3 b4)
        | (go_at_call 55; refine (HSG _).mono ?_; rintro e w3 ⟨rfl, hb3⟩; have B3 := Aside0.mk (B2.out.trans (hb3.mono (Nat.le_of_lt hlt2))); have x1 := (hb3.cell (p := ⟨w.heap.size, 1, none⟩) hlt2).trans z1; have x4 := (hb3.cell (p := ⟨w.heap.size, 4, none⟩) hlt2).trans z4; have hlt3 : w.heap.size < w3.heap.size := block_lt_of_cell x1; obtain ⟨a0, a1, a2, a3, a4⟩ := HLD.out w3 B3.out; obtain ⟨b0, b1, b2, b3, b4⟩ := HLF.out w3 B3.out; clear HSG hb3 z1 z4 y0 y1 y2 y3 y4 u0 u1 u2 u3 u4)
        | (go_at_call 56; refine (HC2.out _ B3.out).mono ?_; rintro e w4 ⟨rfl, hb4⟩; have B4 := Aside0.mk (B3.out.trans (hb4.mono (Nat.le_of_lt hlt3))); have z1 := (hb4.cell (p := ⟨w.heap.size, 1, none⟩) hlt3).trans x1; have z4 := (hb4.cell (p := ⟨w.heap.size, 4, none⟩) hlt3).trans x4; obtain ⟨y0, y1, y2, y3, y4⟩ := HLD.out w4 B4.out; obtain ⟨u0, u1, u2, u3, u4⟩ := HLF.out w4 B4.out))
  go_wp2
  go_ret
  exact ⟨rfl, B4.out⟩
theorem rt_calls : ∀ x, rT x
  | .num n => rt_num n
  | .var => rt_var
  | .neg e => rt_neg e (rt_calls e)
  | .two o a b => rt_two o a b (rt_calls a) (rt_calls b)
end Go.Proofs.YtijpghipfopplaaDoor.PDe
namespace Go.Proofs.YtijpghipfopplaaDoor.PDe
open Go.RowKit Go.Proofs.YtijpghipfopplaaDoorW.PrintWords

def rB (b : Bl) : Prop := ∀ (n : Nat) (w : World) (A : Option Addr) (c : Nat), Kd.C kS w A b.lst.length b.lst → n + b.deep ≤ 500 → (b.text n).length ≤ LIM →
  Calls Tryd.prog 15 #[.slice A b.lst.length c, .string ⟨(tabsB n).toArray⟩] w fun e w' => e = .returned (.string ⟨(b.text n).toArray⟩) ∧ Below w.heap.size w w'
theorem six_of {w : World} {ad : Addr} {a b c d e f : Value} (h : ∀ w', Below w.heap.size w w' → ∀ j v, [a, b, c, d, e, f][j]? = some v → w'.cell? ((ad.add (0 * 6)).add j) = some v) : ∀ w', Below w.heap.size w w' → Six ad a b c d e f w' := fun w' hb => six_at (h w' hb)
set_option maxHeartbeats 2000000 in
set_option maxRecDepth 100000 in
theorem rb_nil : rB .nil := by
  intro n w A c hC ht hlen
  clear hC ht hlen
  show Calls Tryd.prog 15 #[.slice A 0 c, .string ⟨(tabsB n).toArray⟩] w fun e w' => e = .returned (.string ⟨#[]⟩) ∧ Below w.heap.size w w'
  generalize (⟨(tabsB n).toArray⟩ : ByteArray) = TB
  go_enter Tryd.func15, Tryd.ntmps15
  go_wp2
  refine wp_loop_rounds 1 ?_
  rw [rounds_succ]
  go_wp2
  go_ret
  exact ⟨rfl, Below.refl _ w⟩
set_option maxHeartbeats 2000000 in
set_option maxRecDepth 100000 in
theorem rb_ret (e : Ex) : rB (.ret e) := by
  intro n w A c hC ht hlen
  have hu24 := Tryd.underlying24
  have hu27 := Tryd.underlying27
  obtain ⟨ad, cs, rfl, hK, hld⟩ := stmt_at hC 0 (.ret e) rfl
  obtain ⟨A3, c3, A4, c4, A5, c5, rfl, hc3, hC3, _⟩ := kS_open hK
  obtain ⟨ad2, ecs, rfl, hKe, hle⟩ := parts_at hC3 0 e rfl
  obtain ⟨A2, c2, rfl, _⟩ := kE_open hKe
  obtain ⟨s0, s1, s2, s3, s4, s5⟩ := six_of hld w (Below.refl _ w)
  have HLE : Aside0 (∀ w1, Below w.heap.size w w1 → Five ad2 (.int .i64 e.kind) (.int .i64 e.op) (.int .i64 e.n) (.string e.nm) (.slice A2 e.args.length c2) w1) := ⟨fun w1 h => five_at (hle w1 h)⟩
  have eT0 : (Bl.ret e).text n = tabsB n ++ ([114, 101, 116, 117, 114, 110, 32] ++ e.text ++ [59]) ++ [10] := rfl
  rw [eT0] at hlen ⊢
  clear eT0
  have l0 := hlen
  unfold LIM at l0
  simp only [List.length_append, List.length_cons, List.length_nil] at l0
  have l1 : e.text.length ≤ LIM := by unfold LIM; omega
  have l3 : (⟨(tabsB n).toArray⟩ : ByteArray).size + (⟨e.text.toArray⟩ : ByteArray).size + 9 ≤ 1000000 := by
    show (tabsB n).toArray.size + e.text.toArray.size + 9 ≤ _
    simp only [List.size_toArray]; omega
  have HT : Aside0 (∀ w', Below w.heap.size w w' → Calls Tryd.prog 31 #[.agg #[.int .i64 e.kind, .int .i64 e.op, .int .i64 e.n, .string e.nm, .slice A2 e.args.length c2]] w' fun r w'' => r = .returned (.string ⟨e.text.toArray⟩) ∧ Below w'.heap.size w' w'') := ⟨fun w' hb => rt_calls e w' _ (kE.K_below hb hKe) l1⟩
  have eT : (⟨(tabsB n ++ ([114, 101, 116, 117, 114, 110, 32] ++ e.text ++ [59]) ++ [10]).toArray⟩ : ByteArray) = ⟨#[]⟩ ++ ⟨(tabsB n).toArray⟩ ++ ⟨#[114, 101, 116, 117, 114, 110, 32]⟩ ++ ⟨e.text.toArray⟩ ++ ⟨#[59, 10]⟩ := by
    apply ByteArray.ext
    simp [ByteArray.data_append]
  rw [eT]
  clear eT hC ht hlen hK hld hc3 hC3 hKe hle l0 l1
  show Calls Tryd.prog 15 #[.slice (some ad) 1 c, .string ⟨(tabsB n).toArray⟩] w _
  have t0 : w.cell? ad = some (.int .i64 8) := s0
  have t1 : w.cell? ⟨ad.block, ad.off + 1, none⟩ = some (.int .i64 0) := s1
  have t2 : w.cell? ⟨ad.block, ad.off + 2, none⟩ = some (.string ⟨#[]⟩) := s2
  have t3 : w.cell? ⟨ad.block, ad.off + 3, none⟩ = some (.slice (some ad2) 1 c3) := s3
  have t4 : w.cell? ⟨ad.block, ad.off + 4, none⟩ = some (.slice A4 0 c4) := s4
  have t5 : w.cell? ⟨ad.block, ad.off + 5, none⟩ = some (.slice A5 0 c5) := s5
  clear s0 s1 s2 s3 s4 s5
  generalize e.kind = K at *; generalize e.op = O at *; generalize e.n = N at *; generalize e.nm = S at *; generalize e.args.length = L at *
  generalize (⟨(tabsB n).toArray⟩ : ByteArray) = TB at *
  generalize (⟨e.text.toArray⟩ : ByteArray) = TE at *
  have HB : Below w.heap.size w (w.alloc (.cells #[.int .i64 8, .int .i64 0, .string ⟨#[]⟩, .slice (some ad2) 1 c3, .slice A4 0 c4, .slice A5 0 c5] 27)) := (Below.refl _ w).alloc (Nat.le_refl _) _
  obtain ⟨a0, a1, a2, a3, a4⟩ := HLE.out _ HB
  have HBB := Aside0.mk HB
  clear HB
  go_enter Tryd.func15, Tryd.ntmps15
  go_wp2
  refine wp_loop_rounds 2 ?_
  rw [rounds_succ]
  go_wp2_with (first
    | (go_at_call 31; refine (HT.out _ HBB.out).mono ?_; rintro r w2 ⟨rfl, hb2⟩; obtain ⟨p0, B2⟩ := one_row hb2; have q0 := p0 0; have q3 := p0 3; clear p0 hb2; simp at q0 q3))
  rw [rounds_succ]
  go_wp2
  go_ret
  exact ⟨rfl, B2⟩
set_option maxHeartbeats 2000000 in
set_option maxRecDepth 100000 in
theorem rb_set (e : Ex) : rB (.set e) := by
  intro n w A c hC ht hlen
  have hu24 := Tryd.underlying24
  have hu27 := Tryd.underlying27
  obtain ⟨ad, cs, rfl, hK, hld⟩ := stmt_at hC 0 (.set e) rfl
  obtain ⟨A3, c3, A4, c4, A5, c5, rfl, hc3, hC3, _⟩ := kS_open hK
  obtain ⟨ad2, ecs, rfl, hKe, hle⟩ := parts_at hC3 0 e rfl
  obtain ⟨A2, c2, rfl, _⟩ := kE_open hKe
  obtain ⟨s0, s1, s2, s3, s4, s5⟩ := six_of hld w (Below.refl _ w)
  have HLE : Aside0 (∀ w1, Below w.heap.size w w1 → Five ad2 (.int .i64 e.kind) (.int .i64 e.op) (.int .i64 e.n) (.string e.nm) (.slice A2 e.args.length c2) w1) := ⟨fun w1 h => five_at (hle w1 h)⟩
  have eT0 : (Bl.set e).text n = tabsB n ++ ([120, 32, 61, 32] ++ e.text ++ [59]) ++ [10] := rfl
  rw [eT0] at hlen ⊢
  clear eT0
  have l0 := hlen
  unfold LIM at l0
  simp only [List.length_append, List.length_cons, List.length_nil] at l0
  have l1 : e.text.length ≤ LIM := by unfold LIM; omega
  have l3 : (⟨(tabsB n).toArray⟩ : ByteArray).size + (⟨e.text.toArray⟩ : ByteArray).size + 6 ≤ 1000000 := by
    show (tabsB n).toArray.size + e.text.toArray.size + 6 ≤ _
    simp only [List.size_toArray]; omega
  have HT : Aside0 (∀ w', Below w.heap.size w w' → Calls Tryd.prog 31 #[.agg #[.int .i64 e.kind, .int .i64 e.op, .int .i64 e.n, .string e.nm, .slice A2 e.args.length c2]] w' fun r w'' => r = .returned (.string ⟨e.text.toArray⟩) ∧ Below w'.heap.size w' w'') := ⟨fun w' hb => rt_calls e w' _ (kE.K_below hb hKe) l1⟩
  have eT : (⟨(tabsB n ++ ([120, 32, 61, 32] ++ e.text ++ [59]) ++ [10]).toArray⟩ : ByteArray) = ⟨#[]⟩ ++ ⟨(tabsB n).toArray⟩ ++ ⟨#[120]⟩ ++ ⟨#[32, 61, 32]⟩ ++ ⟨e.text.toArray⟩ ++ ⟨#[59, 10]⟩ := by
    apply ByteArray.ext
    simp [ByteArray.data_append]
  rw [eT]
  clear eT hC ht hlen hK hld hc3 hC3 hKe hle l0 l1
  show Calls Tryd.prog 15 #[.slice (some ad) 1 c, .string ⟨(tabsB n).toArray⟩] w _
  have t0 : w.cell? ad = some (.int .i64 2) := s0
  have t1 : w.cell? ⟨ad.block, ad.off + 1, none⟩ = some (.int .i64 0) := s1
  have t2 : w.cell? ⟨ad.block, ad.off + 2, none⟩ = some (.string ⟨#[120]⟩) := s2
  have t3 : w.cell? ⟨ad.block, ad.off + 3, none⟩ = some (.slice (some ad2) 1 c3) := s3
  have t4 : w.cell? ⟨ad.block, ad.off + 4, none⟩ = some (.slice A4 0 c4) := s4
  have t5 : w.cell? ⟨ad.block, ad.off + 5, none⟩ = some (.slice A5 0 c5) := s5
  clear s0 s1 s2 s3 s4 s5
  generalize e.kind = K at *; generalize e.op = O at *; generalize e.n = N at *; generalize e.nm = S at *; generalize e.args.length = L at *
  generalize (⟨(tabsB n).toArray⟩ : ByteArray) = TB at *
  generalize (⟨e.text.toArray⟩ : ByteArray) = TE at *
  have HB : Below w.heap.size w (w.alloc (.cells #[.int .i64 2, .int .i64 0, .string ⟨#[120]⟩, .slice (some ad2) 1 c3, .slice A4 0 c4, .slice A5 0 c5] 27)) := (Below.refl _ w).alloc (Nat.le_refl _) _
  obtain ⟨a0, a1, a2, a3, a4⟩ := HLE.out _ HB
  have HBB := Aside0.mk HB
  clear HB
  go_enter Tryd.func15, Tryd.ntmps15
  go_wp2
  refine wp_loop_rounds 2 ?_
  rw [rounds_succ]
  go_wp2_with (first
    | (go_at_call 31; refine (HT.out _ HBB.out).mono ?_; rintro r w2 ⟨rfl, hb2⟩; obtain ⟨p0, B2⟩ := one_row hb2; have q0 := p0 0; have q2 := p0 2; have q3 := p0 3; clear p0 hb2; simp at q0 q2 q3))
  rw [rounds_succ]
  go_wp2
  go_ret
  exact ⟨rfl, B2⟩
theorem tabsB_succ (n : Nat) : tabsB n ++ [9] = tabsB (n + 1) := by
  unfold tabsB
  induction n with
  | zero => rfl
  | succ n ih => rw [Lib.repeatL, List.append_assoc, ih]; rfl
set_option maxHeartbeats 2000000 in
set_option maxRecDepth 100000 in
theorem rb_whil (b : Bl) (hBB : rB b) : rB (.whil b) := by
  intro n w A c hC ht hlen
  have hu24 := Tryd.underlying24
  have hu27 := Tryd.underlying27
  obtain ⟨ad, cs, rfl, hK, hld⟩ := stmt_at hC 0 (.whil b) rfl
  obtain ⟨A3, c3, A4, c4, A5, c5, rfl, hc3, hC3, hc4, hC4, _⟩ := kS_open hK
  obtain ⟨ad2, ecs, rfl, hKe, hle⟩ := parts_at hC3 0 (.num 0) rfl
  obtain ⟨A2, c2, rfl, _⟩ := kE_open hKe
  obtain ⟨s0, s1, s2, s3, s4, s5⟩ := six_of hld w (Below.refl _ w)
  have HLE : Aside0 (∀ w1, Below w.heap.size w w1 → Five ad2 (.int .i64 1) (.int .i64 0) (.int .i64 0) (.string ⟨#[]⟩) (.slice A2 0 c2) w1) := ⟨fun w1 h => five_at (hle w1 h)⟩
  have eT0 : (Bl.whil b).text n = tabsB n ++ ([119, 104, 105, 108, 101, 32, 40] ++ [48] ++ [41, 32, 123]) ++ [10] ++ b.text (n + 1) ++ (tabsB n ++ [125] ++ [10]) := rfl
  rw [eT0] at hlen ⊢
  clear eT0
  have l0 := hlen
  unfold LIM at l0
  simp only [List.length_append, List.length_cons, List.length_nil] at l0
  have l1 : (b.text (n + 1)).length ≤ LIM := by unfold LIM; omega
  have l3 : (⟨(tabsB n).toArray⟩ : ByteArray).size + (⟨(b.text (n + 1)).toArray⟩ : ByteArray).size + (⟨(tabsB n).toArray⟩ : ByteArray).size + 14 ≤ 1000000 := by
    show (tabsB n).toArray.size + (b.text (n + 1)).toArray.size + (tabsB n).toArray.size + 14 ≤ _
    simp only [List.size_toArray]; omega
  have HT : Aside0 (∀ w', Below w.heap.size w w' → Calls Tryd.prog 31 #[.agg #[.int .i64 1, .int .i64 0, .int .i64 0, .string ⟨#[]⟩, .slice A2 0 c2]] w' fun r w'' => r = .returned (.string ⟨#[48]⟩) ∧ Below w'.heap.size w' w'') := ⟨fun w' hb => rt_calls (.num 0) w' _ (kE.K_below hb hKe) (by show 1 ≤ LIM; decide)⟩
  have HK : Aside0 (∀ w', Below w.heap.size w w' → Calls Tryd.prog 15 #[.slice A4 b.lst.length c4, .string (⟨(tabsB n).toArray⟩ ++ ⟨#[9]⟩)] w' fun r w'' => r = .returned (.string ⟨(b.text (n + 1)).toArray⟩) ∧ Below w'.heap.size w' w'') := ⟨fun w' hb => by
    rw [show (⟨(tabsB n).toArray⟩ ++ ⟨#[9]⟩ : ByteArray) = ⟨(tabsB (n + 1)).toArray⟩ by rw [← tabsB_succ]; exact ba_app (tabsB n) [9]]
    exact hBB (n + 1) w' A4 c4 (Kd.C_below hC4 hb) (by simp only [Bl.deep] at ht; omega) l1⟩
  have eT : (⟨(tabsB n ++ ([119, 104, 105, 108, 101, 32, 40] ++ [48] ++ [41, 32, 123]) ++ [10] ++ b.text (n + 1) ++ (tabsB n ++ [125] ++ [10])).toArray⟩ : ByteArray) = ⟨#[]⟩ ++ ⟨(tabsB n).toArray⟩ ++ ⟨#[119, 104, 105, 108, 101, 32, 40]⟩ ++ ⟨#[48]⟩ ++ ⟨#[41, 32, 123, 10]⟩ ++ ⟨(b.text (n + 1)).toArray⟩ ++ ⟨(tabsB n).toArray⟩ ++ ⟨#[125, 10]⟩ := by
    apply ByteArray.ext
    simp [ByteArray.data_append]
  rw [eT]
  clear eT hC ht hlen hK hld hc3 hC3 hKe hle l0 l1 hC4 hBB hc4
  show Calls Tryd.prog 15 #[.slice (some ad) 1 c, .string ⟨(tabsB n).toArray⟩] w _
  have t0 : w.cell? ad = some (.int .i64 5) := s0
  have t1 : w.cell? ⟨ad.block, ad.off + 1, none⟩ = some (.int .i64 0) := s1
  have t2 : w.cell? ⟨ad.block, ad.off + 2, none⟩ = some (.string ⟨#[]⟩) := s2
  have t3 : w.cell? ⟨ad.block, ad.off + 3, none⟩ = some (.slice (some ad2) 1 c3) := s3
  have t4 : w.cell? ⟨ad.block, ad.off + 4, none⟩ = some (.slice A4 b.lst.length c4) := s4
  have t5 : w.cell? ⟨ad.block, ad.off + 5, none⟩ = some (.slice A5 0 c5) := s5
  clear s0 s1 s2 s3 s4 s5
  generalize (⟨(tabsB n).toArray⟩ : ByteArray) = TB at *
  generalize (⟨(b.text (n + 1)).toArray⟩ : ByteArray) = TK at *
  generalize b.lst.length = N at *
  have HB : Below w.heap.size w (w.alloc (.cells #[.int .i64 5, .int .i64 0, .string ⟨#[]⟩, .slice (some ad2) 1 c3, .slice A4 N c4, .slice A5 0 c5] 27)) := (Below.refl _ w).alloc (Nat.le_refl _) _
  obtain ⟨a0, a1, a2, a3, a4⟩ := HLE.out _ HB
  have HBB := Aside0.mk HB
  clear HB
  go_enter Tryd.func15, Tryd.ntmps15
  go_wp2
  refine wp_loop_rounds 2 ?_
  rw [rounds_succ]
  go_wp2_with (first
    | (go_at_call 31; refine (HT.out _ HBB.out).mono ?_; rintro r w2 ⟨rfl, hb2⟩; obtain ⟨p0, B2⟩ := one_row hb2; have q0 := p0 0; have q4 := p0 4; clear p0 hb2; simp at q0 q4)
    | (go_at_call 15; refine (HK.out _ B2).mono ?_; rintro r w3 ⟨rfl, hb3⟩))
  rw [rounds_succ]
  go_wp2
  go_ret
  exact ⟨rfl, B2.trans (hb3.mono B2.size)⟩
set_option maxHeartbeats 2000000 in
set_option maxRecDepth 100000 in
theorem rb_if0 : rB (.iff .nil) := by
  intro n w A c hC ht hlen
  have hu24 := Tryd.underlying24
  have hu27 := Tryd.underlying27
  obtain ⟨ad, cs, rfl, hK, hld⟩ := stmt_at hC 0 (.iff .nil) rfl
  obtain ⟨A3, c3, A4, c4, A5, c5, rfl, hc3, hC3, hc4, hC4, _⟩ := kS_open hK
  obtain ⟨ad2, ecs, rfl, hKe, hle⟩ := parts_at hC3 0 (.num 0) rfl
  obtain ⟨A2, c2, rfl, _⟩ := kE_open hKe
  obtain ⟨s0, s1, s2, s3, s4, s5⟩ := six_of hld w (Below.refl _ w)
  have HLE : Aside0 (∀ w1, Below w.heap.size w w1 → Five ad2 (.int .i64 1) (.int .i64 0) (.int .i64 0) (.string ⟨#[]⟩) (.slice A2 0 c2) w1) := ⟨fun w1 h => five_at (hle w1 h)⟩
  have eT0 : (Bl.iff .nil).text n = tabsB n ++ ([105, 102, 32, 40] ++ [48] ++ [41, 32, 123]) ++ [10] ++ [] ++ (tabsB n ++ [125] ++ [10]) := rfl
  rw [eT0] at hlen ⊢
  clear eT0
  have l0 := hlen
  unfold LIM at l0
  simp only [List.length_append, List.length_cons, List.length_nil] at l0
  have l3 : (⟨(tabsB n).toArray⟩ : ByteArray).size + (⟨(tabsB n).toArray⟩ : ByteArray).size + 11 ≤ 1000000 := by
    show (tabsB n).toArray.size + (tabsB n).toArray.size + 11 ≤ _
    simp only [List.size_toArray]; omega
  have HT : Aside0 (∀ w', Below w.heap.size w w' → Calls Tryd.prog 31 #[.agg #[.int .i64 1, .int .i64 0, .int .i64 0, .string ⟨#[]⟩, .slice A2 0 c2]] w' fun r w'' => r = .returned (.string ⟨#[48]⟩) ∧ Below w'.heap.size w' w'') := ⟨fun w' hb => rt_calls (.num 0) w' _ (kE.K_below hb hKe) (by show 1 ≤ LIM; decide)⟩
  have HK : Aside0 (∀ w', Below w.heap.size w w' → Calls Tryd.prog 15 #[.slice A4 0 c4, .string (⟨(tabsB n).toArray⟩ ++ ⟨#[9]⟩)] w' fun r w'' => r = .returned (.string ⟨#[]⟩) ∧ Below w'.heap.size w' w'') := ⟨fun w' hb => by
    rw [show (⟨(tabsB n).toArray⟩ ++ ⟨#[9]⟩ : ByteArray) = ⟨(tabsB (n + 1)).toArray⟩ by rw [← tabsB_succ]; exact ba_app (tabsB n) [9]]
    exact rb_nil (n + 1) w' A4 c4 (Kd.C_below hC4 hb) (by simp only [Bl.deep] at ht ⊢; omega) (by show 0 ≤ LIM; omega)⟩
  have eT : (⟨(tabsB n ++ ([105, 102, 32, 40] ++ [48] ++ [41, 32, 123]) ++ [10] ++ [] ++ (tabsB n ++ [125] ++ [10])).toArray⟩ : ByteArray) = ⟨#[]⟩ ++ ⟨(tabsB n).toArray⟩ ++ ⟨#[105, 102, 32, 40]⟩ ++ ⟨#[48]⟩ ++ ⟨#[41, 32, 123, 10]⟩ ++ ⟨#[]⟩ ++ ⟨(tabsB n).toArray⟩ ++ ⟨#[125]⟩ ++ ⟨#[10]⟩ := by
    apply ByteArray.ext
    simp [ByteArray.data_append]
  rw [eT]
  clear eT hC ht hlen hK hld hc3 hC3 hKe hle l0 hC4 hc4
  show Calls Tryd.prog 15 #[.slice (some ad) 1 c, .string ⟨(tabsB n).toArray⟩] w _
  have t0 : w.cell? ad = some (.int .i64 4) := s0
  have t1 : w.cell? ⟨ad.block, ad.off + 1, none⟩ = some (.int .i64 0) := s1
  have t2 : w.cell? ⟨ad.block, ad.off + 2, none⟩ = some (.string ⟨#[]⟩) := s2
  have t3 : w.cell? ⟨ad.block, ad.off + 3, none⟩ = some (.slice (some ad2) 1 c3) := s3
  have t4 : w.cell? ⟨ad.block, ad.off + 4, none⟩ = some (.slice A4 0 c4) := s4
  have t5 : w.cell? ⟨ad.block, ad.off + 5, none⟩ = some (.slice A5 0 c5) := s5
  clear s0 s1 s2 s3 s4 s5
  generalize (⟨(tabsB n).toArray⟩ : ByteArray) = TB at *
  have HB : Below w.heap.size w (w.alloc (.cells #[.int .i64 4, .int .i64 0, .string ⟨#[]⟩, .slice (some ad2) 1 c3, .slice A4 0 c4, .slice A5 0 c5] 27)) := (Below.refl _ w).alloc (Nat.le_refl _) _
  obtain ⟨a0, a1, a2, a3, a4⟩ := HLE.out _ HB
  have HBB := Aside0.mk HB
  clear HB
  go_enter Tryd.func15, Tryd.ntmps15
  go_wp2
  refine wp_loop_rounds 2 ?_
  rw [rounds_succ]
  go_wp2_with (first
    | (go_at_call 31; refine (HT.out _ HBB.out).mono ?_; rintro r w2 ⟨rfl, hb2⟩; obtain ⟨p0, B2⟩ := one_row hb2; have q0 := p0 0; have q4 := p0 4; have q5 := p0 5; clear p0 hb2; simp at q0 q4 q5)
    | (go_at_call 15; refine (HK.out _ B2).mono ?_; rintro r w3 ⟨rfl, hb3⟩; have v5 := pw_cell_below hb3 q5))
  rw [rounds_succ]
  go_wp2
  go_ret
  exact ⟨rfl, B2.trans (hb3.mono B2.size)⟩
set_option maxHeartbeats 2000000 in
set_option maxRecDepth 100000 in
theorem rb_if1 (b : Bl) (hnb : b ≠ .nil) (hBB : rB b) : rB (.iff b) := by
  intro n w A c hC ht hlen
  have hu24 := Tryd.underlying24
  have hu27 := Tryd.underlying27
  obtain ⟨ad, cs, rfl, hK, hld⟩ := stmt_at hC 0 (.iff b) rfl
  obtain ⟨A3, c3, A4, c4, A5, c5, rfl, hc3, hC3, hc4, hC4, hc5, hC5⟩ := kS_open hK
  have hbl : b.lst.length = 1 := by cases b <;> first | exact absurd rfl hnb | rfl
  obtain ⟨ad2, ecs, rfl, hKe, hle⟩ := parts_at hC3 0 (.num 0) rfl
  obtain ⟨A2, c2, rfl, _⟩ := kE_open hKe
  obtain ⟨s0, s1, s2, s3, s4, s5⟩ := six_of hld w (Below.refl _ w)
  have HLE : Aside0 (∀ w1, Below w.heap.size w w1 → Five ad2 (.int .i64 1) (.int .i64 0) (.int .i64 0) (.string ⟨#[]⟩) (.slice A2 0 c2) w1) := ⟨fun w1 h => five_at (hle w1 h)⟩
  have eT0 : (Bl.iff b).text n = tabsB n ++ ([105, 102, 32, 40] ++ [48] ++ [41, 32, 123]) ++ [10] ++ (tabsB n ++ [125, 32, 101, 108, 115, 101, 32, 123] ++ [10] ++ b.text (n + 1)) ++ (tabsB n ++ [125] ++ [10]) := by cases b <;> first | exact absurd rfl hnb | rfl
  rw [eT0] at hlen ⊢
  clear eT0
  have l0 := hlen
  unfold LIM at l0
  simp only [List.length_append, List.length_cons, List.length_nil] at l0
  have l1 : (b.text (n + 1)).length ≤ LIM := by unfold LIM; omega
  have l3 : (⟨(tabsB n).toArray⟩ : ByteArray).size + (⟨(tabsB n).toArray⟩ : ByteArray).size + (⟨(b.text (n + 1)).toArray⟩ : ByteArray).size + (⟨(tabsB n).toArray⟩ : ByteArray).size + 20 ≤ 1000000 := by
    show (tabsB n).toArray.size + (tabsB n).toArray.size + (b.text (n + 1)).toArray.size + (tabsB n).toArray.size + 20 ≤ _
    simp only [List.size_toArray]; omega
  have HT : Aside0 (∀ w', Below w.heap.size w w' → Calls Tryd.prog 31 #[.agg #[.int .i64 1, .int .i64 0, .int .i64 0, .string ⟨#[]⟩, .slice A2 0 c2]] w' fun r w'' => r = .returned (.string ⟨#[48]⟩) ∧ Below w'.heap.size w' w'') := ⟨fun w' hb => rt_calls (.num 0) w' _ (kE.K_below hb hKe) (by show 1 ≤ LIM; decide)⟩
  have HK : Aside0 (∀ w', Below w.heap.size w w' → Calls Tryd.prog 15 #[.slice A4 0 c4, .string (⟨(tabsB n).toArray⟩ ++ ⟨#[9]⟩)] w' fun r w'' => r = .returned (.string ⟨#[]⟩) ∧ Below w'.heap.size w' w'') := ⟨fun w' hb => by
    rw [show (⟨(tabsB n).toArray⟩ ++ ⟨#[9]⟩ : ByteArray) = ⟨(tabsB (n + 1)).toArray⟩ by rw [← tabsB_succ]; exact ba_app (tabsB n) [9]]
    exact rb_nil (n + 1) w' A4 c4 (Kd.C_below hC4 hb) (by simp only [Bl.deep] at ht ⊢; omega) (by show 0 ≤ LIM; omega)⟩
  have HK2 : Aside0 (∀ w', Below w.heap.size w w' → Calls Tryd.prog 15 #[.slice A5 1 c5, .string (⟨(tabsB n).toArray⟩ ++ ⟨#[9]⟩)] w' fun r w'' => r = .returned (.string ⟨(b.text (n + 1)).toArray⟩) ∧ Below w'.heap.size w' w'') := ⟨fun w' hb => by
    rw [show (⟨(tabsB n).toArray⟩ ++ ⟨#[9]⟩ : ByteArray) = ⟨(tabsB (n + 1)).toArray⟩ by rw [← tabsB_succ]; exact ba_app (tabsB n) [9]]
    have := hBB (n + 1) w' A5 c5 (Kd.C_below hC5 hb) (by simp only [Bl.deep] at ht; omega) l1
    rwa [hbl] at this⟩
  have eT : (⟨(tabsB n ++ ([105, 102, 32, 40] ++ [48] ++ [41, 32, 123]) ++ [10] ++ (tabsB n ++ [125, 32, 101, 108, 115, 101, 32, 123] ++ [10] ++ b.text (n + 1)) ++ (tabsB n ++ [125] ++ [10])).toArray⟩ : ByteArray) = ⟨#[]⟩ ++ ⟨(tabsB n).toArray⟩ ++ ⟨#[105, 102, 32, 40]⟩ ++ ⟨#[48]⟩ ++ ⟨#[41, 32, 123, 10]⟩ ++ ⟨#[]⟩ ++ ⟨(tabsB n).toArray⟩ ++ ⟨#[125]⟩ ++ ⟨#[32, 101, 108, 115, 101, 32, 123, 10]⟩ ++ ⟨(b.text (n + 1)).toArray⟩ ++ ⟨(tabsB n).toArray⟩ ++ ⟨#[125]⟩ ++ ⟨#[10]⟩ := by
    apply ByteArray.ext
    simp [ByteArray.data_append]
  rw [eT]
  clear eT hC ht hlen hK hld hc3 hC3 hKe hle l0 l1 hC4 hc4 hC5 hc5 hBB hnb
  show Calls Tryd.prog 15 #[.slice (some ad) 1 c, .string ⟨(tabsB n).toArray⟩] w _
  have t0 : w.cell? ad = some (.int .i64 4) := s0
  have t1 : w.cell? ⟨ad.block, ad.off + 1, none⟩ = some (.int .i64 0) := s1
  have t2 : w.cell? ⟨ad.block, ad.off + 2, none⟩ = some (.string ⟨#[]⟩) := s2
  have t3 : w.cell? ⟨ad.block, ad.off + 3, none⟩ = some (.slice (some ad2) 1 c3) := s3
  have t4 : w.cell? ⟨ad.block, ad.off + 4, none⟩ = some (.slice A4 0 c4) := s4
  have t5 : w.cell? ⟨ad.block, ad.off + 5, none⟩ = some (.slice A5 1 c5) := by have h := s5; rwa [show (Bl.iff b).el = b from rfl, hbl] at h
  clear hbl
  clear s0 s1 s2 s3 s4 s5
  generalize (⟨(tabsB n).toArray⟩ : ByteArray) = TB at *
  generalize (⟨(b.text (n + 1)).toArray⟩ : ByteArray) = TK at *
  have HB : Below w.heap.size w (w.alloc (.cells #[.int .i64 4, .int .i64 0, .string ⟨#[]⟩, .slice (some ad2) 1 c3, .slice A4 0 c4, .slice A5 1 c5] 27)) := (Below.refl _ w).alloc (Nat.le_refl _) _
  obtain ⟨a0, a1, a2, a3, a4⟩ := HLE.out _ HB
  have HBB := Aside0.mk HB
  clear HB
  go_enter Tryd.func15, Tryd.ntmps15
  go_wp2
  refine wp_loop_rounds 2 ?_
  rw [rounds_succ]
  go_wp2_with (first
    | (go_at_call 31; refine (HT.out _ HBB.out).mono ?_; rintro r w2 ⟨rfl, hb2⟩; obtain ⟨p0, B2⟩ := one_row hb2; have q0 := p0 0; have q4 := p0 4; have q5 := p0 5; clear p0 hb2; simp at q0 q4 q5)
    | (go_at_call 15; refine (HK.out _ B2).mono ?_; rintro r w3 ⟨rfl, hb3⟩; have v5 := pw_cell_below hb3 q5; have B3 := B2.trans (hb3.mono B2.size); clear HK)
    | (go_at_call 15; refine (HK2.out _ B3).mono ?_; rintro r w4 ⟨rfl, hb4⟩))
  rw [rounds_succ]
  go_wp2
  go_ret
  exact ⟨rfl, B3.trans (hb4.mono B3.size)⟩
theorem rb_calls : ∀ b, rB b
  | .nil => rb_nil
  | .set e => rb_set e
  | .ret e => rb_ret e
  | .whil b => rb_whil b (rb_calls b)
  | .iff .nil => rb_if0
  | .iff (.set e) => rb_if1 _ (by simp) (rb_calls (.set e))
  | .iff (.ret e) => rb_if1 _ (by simp) (rb_calls (.ret e))
  | .iff (.whil b) => rb_if1 _ (by simp) (rb_calls (.whil b))
  | .iff (.iff b) => rb_if1 _ (by simp) (rb_calls (.iff b))
end Go.Proofs.YtijpghipfopplaaDoor.PDe
