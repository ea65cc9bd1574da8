/- token.run and token.Name at names of one letter, and at the empty text. wrap.rowOf, Level and Sign at the operators that occur. wrap.Level and Sign at the operators that occur. tree.own at the expressions that occur. -/
import Derived.Test.YtijpghipfopplaaDoorPDex1
import Derived.Test.YtijpghipfopplaaDoorPDex2
import Derived.Test.YtijpghipfopplaaDoorPDex3
import Derived.Lib.OthersKept
import Derived.Deep.WholeRow
set_option linter.unusedVariables false
set_option linter.unusedSimpArgs false
namespace Go.Proofs.YtijpghipfopplaaDoor.PDe
open Go.RowKit Go.Proofs.YtijpghipfopplaaDoorW.PrintWords

def one (c : UInt8) : ByteArray := ⟨#[c]⟩
/-- The names that occur. -/
def isNm (c : UInt8) : Prop := c = 102 ∨ c = 120 ∨ c = 121
theorem letter_nm (c : UInt8) (hc : isNm c) : token_letter.f (c.toNat : Int) = some true := by
  rcases hc with rfl | rfl | rfl <;> decide +kernel

set_option maxHeartbeats 4000000 in
theorem run_calls (c : UInt8) (hc : isNm c) (w : World) :
    Calls Tryd.prog 33 #[.string (one c)] w fun e w' => e = .returned (.string (one c)) ∧ Below w.heap.size w w' := by
  have HL := Aside0.mk (letter_nm c hc)
  have h128 : c.toNat < 128 := by rcases hc with rfl | rfl | rfl <;> decide
  have HC := Aside0.mk h128
  clear hc h128
  have HB := Aside0.mk (Below.refl w.heap.size w)
  have s1 : (one c).size = 1 := rfl
  generalize hs : one c = s at *
  have HS := Aside0.mk hs
  clear hs
  go_enter Tryd.func33, Tryd.ntmps33
  go_wp2
  go_loopg [7] 2 (fun k _ wr => ∃ pos : Nat, pos + k = 2 ∧ Aside0 (wr.heap[w.heap.size]? = some (.stringIter s pos)) ∧ Aside0 (Below w.heap.size w wr))
  case atStart => exact ⟨0, rfl, ⟨World.iter_heap w s 0⟩, ⟨(Below.refl _ w).alloc (Nat.le_refl _) _⟩⟩
  case round =>
    obtain ⟨pos, hpk, hit, hbw⟩ := hrel
    have hsz : w.heap.size < wr.heap.size := (Array.getElem?_eq_some_iff.1 hit.out).1
    by_cases hp : pos < s.size
    · have hnx : ∀ ty, (Instr.next (.pointer (some ⟨w.heap.size, 0, none⟩)) true ty).run Tryd.prog wr = _ := fun ty => Lib.run_next_any_at wr w.heap.size s pos ty hit.out hp
      have hit2 := Aside0.mk (Lib.iterAt_heap wr w.heap.size s pos 1 hit.out)
      have hbw2 := Aside0.mk (Lib.below_iterAt hbw.out (k := w.heap.size) (Nat.le_refl _) s 1)
      have hp0 : pos = 0 := by omega
      subst hp0
      have hd : Utf8.decode s 0 = (c.toNat, 1) := by have e := HS.out; subst e; exact decode_ascii (one c) 0 hp HC.out
      rw [hd] at hnx
      simp only [Nat.zero_add] at hnx
      go_wp2_with (go_at_call 32; refine (token_letter.calls _ true _ HL.out).mono ?_; rintro e w' ⟨rfl, hb'⟩)
      have hb2 : Below (w.heap.size + 1) (wr.iterAt w.heap.size s 1) w' := hb'.below.mono (by rw [Lib.iterAt_size]; omega)
      go_roundg 1
      case measure => omega
      case rel => exact ⟨1, rfl, ⟨(hb2.block _ (Nat.lt_succ_self _)).trans hit2.out⟩, ⟨hbw2.out.trans (hb2.mono (Nat.le_succ _))⟩⟩
    · have hnx : ∀ ty, (Instr.next (.pointer (some ⟨w.heap.size, 0, none⟩)) true ty).run Tryd.prog wr = _ := fun ty => Lib.run_next_end_at wr w.heap.size s pos ty hit.out hp
      go_wp2
      go_ret
      exact ⟨rfl, hbw.out⟩
/-- Whether a text is a name: of names of one letter, and of none. -/
def nmOk (s : ByteArray) : Option Bool := if s = ⟨#[]⟩ then some false else if s = one 102 ∨ s = one 120 ∨ s = one 121 then some true else none
theorem letter_at (c : UInt8) (hc : isNm c) : ∀ h : 0 < (one c).size, token_letter.f (wrap32 (((one c)[0]'h).toNat : Int)) = some true := by
  intro h; show token_letter.f (wrap32 (c.toNat : Int)) = some true; rcases hc with rfl | rfl | rfl <;> kernel_rfl
theorem word_nm (c : UInt8) (hc : isNm c) : token_Word.f 40 (one c) = some false := by rcases hc with h | h | h <;> (rw [h]; kernel_rfl)
theorem ne_nm (c : UInt8) (hc : isNm c) : (one c).toList.isEmpty = false := by rcases hc with h | h | h <;> (rw [h]; kernel_rfl)
set_option maxHeartbeats 400000 in
theorem name_one (c : UInt8) (hc : isNm c) (w : World) :
    Calls Tryd.prog 17 #[.string (one c)] w fun e w' => e = .returned (.bool true) ∧ Below w.heap.size w w' := by
  have HL := Aside0.mk (letter_at c hc)
  have HR := fun w => run_calls c hc w
  have HW' := Aside0.mk (word_nm c hc)
  have he := ne_nm c hc
  have hne : ¬ (one c).toList = [] := fun h => by rw [h] at he; cases he
  have s1 : (one c).size = 1 := rfl
  clear hc
  generalize one c = s at *
  have HB := Aside0.mk (Below.refl w.heap.size w)
  go_enter Tryd.func17, Tryd.ntmps17
  go_wp2_with (first | (go_at_call 32; (with_reducible refine (token_letter.calls _ true _ (HL.out _)).mono ?_); rintro e w0 ⟨rfl, hb0⟩) | (go_at_call 33; refine (HR _).mono ?_; rintro e w1 ⟨rfl, hb1⟩) | (go_at_call 34; (with_reducible refine (token_Word.calls 40 _ false _ HW'.out).mono ?_); rintro e w2 ⟨rfl, hb2⟩))
  go_ret
  have hb : Below w.heap.size w w2 := (Below.trans hb0.below (hb1.mono hb0.below.size)).trans (hb2.below.mono (Nat.le_trans hb0.below.size hb1.size))
  refine ⟨?_, hb⟩
  simp [he]
theorem name_none (w : World) :
    Calls Tryd.prog 17 #[.string ⟨#[]⟩] w fun e w' => e = .returned (.bool false) ∧ Below w.heap.size w w' := by
  have HB := Aside0.mk (Below.refl w.heap.size w)
  go_enter Tryd.func17, Tryd.ntmps17
  go_wp2
  go_ret
  exact ⟨rfl, HB.out⟩
end Go.Proofs.YtijpghipfopplaaDoor.PDe
namespace Go.Proofs.YtijpghipfopplaaDoor.PDe
open Go.RowKit Go.Proofs.YtijpghipfopplaaDoorW.PrintWords

theorem step_value {P : Program} {ops : Array Oper} {Q : Exit → Act → World → Prop} {o : Oper} {rest : List Oper} {a : Act} {w w' : World} {v : Value} (hgd : o.guard = none) (hr : (execOp a.eval o).run P w = .ok (.value v) w')
    (h : wpList P ops Q rest (a.put o.dst v) w') : wpList P ops Q (o :: rest) a w :=
  wpList_plain hgd fun _ hK => by
    unfold Oper.wp
    rw [hr]
    exact hK _ _ h
theorem step_skip {P : Program} {ops : Array Oper} {Q : Exit → Act → World → Prop} {o : Oper} {rest : List Oper} {a : Act} {w w' : World} (hgd : o.guard = none) (hr : (execOp a.eval o).run P w = .ok .skip w')
    (h : wpList P ops Q rest (a.put o.dst undef) w') : wpList P ops Q (o :: rest) a w :=
  wpList_plain hgd fun _ hK => by
    unfold Oper.wp
    rw [hr]
    exact hK _ _ h
theorem store_new {P : Program} {ops : Array Oper} {Q : Exit → Act → World → Prop} {o : Oper} {rest : List Oper} {a : Act} (hgd : o.guard = none) (t : TypeId) {p v : Operand} (ho : o.op = .store t p v) (W : World) (c c' : Array Value)
    (hx : a.eval p = .pointer (some ⟨W.heap.size, 0, none⟩)) (hy : a.eval v = .agg c') (hi : (P.info? t).map (·.size) = some c'.size) (hc : c.size = c'.size) (h1 : c'.all (·.oneCell') = true)
    (h : wpList P ops Q rest (a.put o.dst undef) (W.alloc (.cells c' t))) : wpList P ops Q (o :: rest) a (W.alloc (.cells c t)) :=
  wpList_plain hgd fun _ hK => by
    unfold Oper.wp execOp
    simp only [ho, hx, hy, Sem.run_bind, run_storeAt_new (P := P) W t c c' hi hc h1, Result.andThen_ok]
    exact hK _ _ h
def opC : List (List UInt8 × Int) := [([], 0), ([43], 9), ([45], 9), ([42], 10), ([47], 10), ([37], 10), ([38], 5), ([124], 3), ([94], 4), ([60, 60], 8), ([62, 62], 8), ([62, 62, 62], 8), ([60], 7), ([60, 61], 7), ([62], 7), ([62, 61], 7), ([61, 61], 6), ([33, 61], 6), ([38, 38], 2), ([124, 124], 1), ([45], 0), ([126], 0), ([33], 0), ([105, 56], 0), ([105, 49, 54], 0), ([105, 51, 50], 0), ([117, 56], 0), ([117, 49, 54], 0), ([117, 51, 50], 0)]
def opV : List Value := opC.flatMap fun p => [Value.string ⟨p.1.toArray⟩, Value.int .i64 p.2]
def opZ : List Value := (List.replicate 29 [Value.string ⟨#[]⟩, Value.int .i64 0]).flatten
set_option maxHeartbeats 400000 in
theorem rowOf_calls (op : Int) (h0 : 0 ≤ op) (h1 : op < 29) (s : ByteArray) (l : Int) (hs : opV.toArray[op.toNat * 2]? = some (.string s)) (hl : opV.toArray[op.toNat * 2 + 1]? = some (.int .i64 l)) (w : World) :
    Calls Tryd.prog 70 #[.int .i64 op] w fun e w' => e = .returned (.agg #[.string s, .int .i64 l]) ∧ Below w.heap.size w w' := by
  have HB := Aside0.mk (Below.refl w.heap.size w)
  obtain ⟨C, hC⟩ : ∃ C, C = opV.toArray := ⟨_, rfl⟩
  obtain ⟨Z, hZ⟩ : ∃ Z, Z = opZ.toArray := ⟨_, rfl⟩
  rw [← hC] at hs hl
  have HC := Aside0.mk hC
  have HZ := Aside0.mk hZ
  clear hC hZ
  have n0 : decide (op < 0) = false := decide_eq_false (by omega)
  have n1 : decide (29 ≤ op) = false := decide_eq_false (by omega)
  go_enter Tryd.func70, Tryd.ntmps70
  obtain ⟨W1, hW1⟩ : ∃ W1, W1 = w.alloc (.cells #[.string ⟨#[]⟩, .int .i64 0] 112) := ⟨_, rfl⟩
  go_wp2_with (first
    | ((with_reducible refine gate_dst (N := 32) rfl ?_); refine step_value rfl (v := .agg C) (w' := w.alloc (.cells #[.string ⟨#[]⟩, .int .i64 0] 112)) (by rw [HC.out]; kernel_rfl) ?_)
    | ((with_reducible refine gate_dst (N := 3) rfl ?_); refine step_value rfl (v := .pointer (some ⟨(w.alloc (.cells #[.string ⟨#[]⟩, .int .i64 0] 112)).heap.size, 0, none⟩)) (w' := (w.alloc (.cells #[.string ⟨#[]⟩, .int .i64 0] 112)).alloc (.cells Z 130)) (by rw [HZ.out]; kernel_rfl) ?_)
    | ((with_reducible refine store_new (t := 130) rfl rfl (w.alloc (.cells #[.string ⟨#[]⟩, .int .i64 0] 112)) Z C ?x1 ?x2 ?x3 ?x4 ?x5 ?_)
       case x1 => rfl
       case x2 => rfl
       case x3 => rw [HC.out]; kernel_rfl
       case x4 => rw [HC.out, HZ.out]; kernel_rfl
       case x5 => rw [HC.out]; kernel_rfl))
  refine bodyPost_ret (results_cell_row rfl _ _ w.heap.size 112 #[.string s, .int .i64 l] (0, 0) _ rfl (heap_alloc2_old w _ _) (Tryd.underlying112) rfl (by kernel_rfl)) rfl ⟨rfl, ?_⟩
  exact ((Below.refl _ w).alloc (Nat.le_refl _) _).alloc (by simp) _
/-- The operators that occur, their signs and levels. -/
def isOp (op : Int) (s : ByteArray) (l : Int) : Prop := (op = 1 ∧ s = ⟨#[43]⟩ ∧ l = 9) ∨ (op = 2 ∧ s = ⟨#[45]⟩ ∧ l = 9) ∨ (op = 3 ∧ s = ⟨#[42]⟩ ∧ l = 10) ∨ (op = 20 ∧ s = ⟨#[45]⟩ ∧ l = 0)
theorem rowOf_op (op : Int) (s : ByteArray) (l : Int) (h : isOp op s l) (w : World) :
    Calls Tryd.prog 70 #[.int .i64 op] w fun e w' => e = .returned (.agg #[.string s, .int .i64 l]) ∧ Below w.heap.size w w' := by
  rcases h with ⟨rfl, rfl, rfl⟩ | ⟨rfl, rfl, rfl⟩ | ⟨rfl, rfl, rfl⟩ | ⟨rfl, rfl, rfl⟩ <;>
  exact rowOf_calls _ (by decide) (by decide) _ _ (by kernel_rfl) (by kernel_rfl) w
end Go.Proofs.YtijpghipfopplaaDoor.PDe
namespace Go.Proofs.YtijpghipfopplaaDoor.PDe
open Go.RowKit Go.Proofs.YtijpghipfopplaaDoorW.PrintWords
theorem level_op (op : Int) (s : ByteArray) (l : Int) (h : isOp op s l) (w : World) :
    Calls Tryd.prog 52 #[.int .i64 op] w fun e w' => e = .returned (.int .i64 l) ∧ Below w.heap.size w w' := by
  have H := fun w => rowOf_op op s l h w
  clear h
  go_enter Tryd.func52, Tryd.ntmps52
  have hf : ∀ w, (Instr.field 112 (.agg #[.string s, .int .i64 l]) 1).run Tryd.prog w = .ok (.int .i64 l) w := fun w => by kernel_rfl
  go_wp2_with (first | (go_at_call 70; refine (H _).mono ?_; rintro e w1 ⟨rfl, hb1⟩))
  go_ret
  exact ⟨rfl, hb1⟩
theorem sign_op (op : Int) (s : ByteArray) (l : Int) (h : isOp op s l) (w : World) :
    Calls Tryd.prog 54 #[.int .i64 op] w fun e w' => e = .returned (.string s) ∧ Below w.heap.size w w' := by
  have H := fun w => rowOf_op op s l h w
  clear h
  go_enter Tryd.func54, Tryd.ntmps54
  have hf : ∀ w, (Instr.field 112 (.agg #[.string s, .int .i64 l]) 0).run Tryd.prog w = .ok (.string s) w := fun w => by kernel_rfl
  go_wp2_with (first | (go_at_call 70; refine (H _).mono ?_; rintro e w1 ⟨rfl, hb1⟩))
  go_ret
  exact ⟨rfl, hb1⟩
end Go.Proofs.YtijpghipfopplaaDoor.PDe
namespace Go.Proofs.YtijpghipfopplaaDoor.PDe
open Go.RowKit Go.Proofs.YtijpghipfopplaaDoorW.PrintWords

/-- A head of an expression, and how many parts it has. -/
def isHd (K op n : Int) (nm : ByteArray) (r : Nat) : Prop :=
  (K = 1 ∧ op = 0 ∧ 0 ≤ n ∧ nm = ⟨#[]⟩ ∧ r = 0) ∨ (K = 3 ∧ op = 0 ∧ n = 0 ∧ nm = one 121 ∧ r = 0) ∨ (K = 4 ∧ op = 20 ∧ n = 0 ∧ nm = ⟨#[]⟩ ∧ r = 1) ∨ (K = 5 ∧ (op = 1 ∨ op = 2 ∨ op = 3) ∧ n = 0 ∧ nm = ⟨#[]⟩ ∧ r = 2)
theorem blank_ok (K : Int) (w : World) : Calls Tryd.prog 91 #[.agg #[.int .i64 K, .int .i64 0, .int .i64 0, .string ⟨#[]⟩, .slice none 0 0]] w fun e w' => e = .returned (.bool true) ∧ Below w.heap.size w w' :=
  tree_blank.calls K 0 0 ⟨#[]⟩ none 0 [] true w (Kd.C_nil _ _) (Nat.le_refl _) (by kernel_rfl)
theorem level_pos (op : Int) (h : op = 1 ∨ op = 2 ∨ op = 3) (w : World) : Calls Tryd.prog 52 #[.int .i64 op] w fun e w' => ∃ l, e = .returned (.int .i64 l) ∧ decide (l > 0) = true ∧ Below w.heap.size w w' := by
  rcases h with rfl | rfl | rfl
  · exact (level_op 1 _ 9 (.inl ⟨rfl, rfl, rfl⟩) w).mono fun e w' h => ⟨9, h.1, rfl, h.2⟩
  · exact (level_op 2 _ 9 (.inr (.inl ⟨rfl, rfl, rfl⟩)) w).mono fun e w' h => ⟨9, h.1, rfl, h.2⟩
  · exact (level_op 3 _ 10 (.inr (.inr (.inl ⟨rfl, rfl, rfl⟩))) w).mono fun e w' h => ⟨10, h.1, rfl, h.2⟩
/-- Two new rows, behind a call. -/
theorem two_rows {w w2 : World} {c0 c1 : Array Value} {t0 t1 : TypeId} (hb : Below ((w.alloc (.cells c0 t0)).alloc (.cells c1 t1)).heap.size ((w.alloc (.cells c0 t0)).alloc (.cells c1 t1)) w2) :
    (∀ j, w2.cell? ⟨w.heap.size, j, none⟩ = c0[j]?) ∧ (∀ j, w2.cell? ⟨w.heap.size + 1, j, none⟩ = c1[j]?) ∧ Below w.heap.size w w2 := by
  have e2 : ((w.alloc (.cells c0 t0)).alloc (.cells c1 t1)).heap.size = w.heap.size + 2 := by simp
  rw [e2] at hb
  refine ⟨fun j => ?_, fun j => ?_, ?_⟩
  · exact cell_of_row _ _ _ _ t0 (0, 0) ((hb.block _ (by omega)).trans (heap_alloc2_old w _ _))
  · exact cell_of_row _ _ _ _ t1 (0, 0) ((hb.block _ (by omega)).trans (heap_alloc2_new w _ _))
  · exact (((Below.refl _ w).alloc (Nat.le_refl _) _).alloc (by simp) _).trans (hb.mono (by omega))
set_option maxHeartbeats 2000000 in
set_option maxRecDepth 100000 in
theorem own_calls (K op n : Int) (nm : ByteArray) (r : Nat) (h : isHd K op n nm r) (A : Option Addr) (L c : Nat) (w : World) :
    Calls Tryd.prog 84 #[.agg #[.int .i64 K, .int .i64 op, .int .i64 n, .string nm, .slice A L c]] w fun e w' => e = .returned (.tuple #[.int .i64 r, .bool true]) ∧ Below w.heap.size w w' := by
  have hu24 := Tryd.underlying24
  have HB := Aside0.mk (Below.refl w.heap.size w)
  rcases h with ⟨rfl, rfl, h0, rfl, rfl⟩ | ⟨rfl, rfl, rfl, rfl, rfl⟩ | ⟨rfl, rfl, rfl, rfl, rfl⟩ | ⟨rfl, ho, rfl, rfl, rfl⟩
  · have g0 : decide (0 ≤ n) = true := decide_eq_true h0
    go_enter Tryd.func84, Tryd.ntmps84
    go_wp2_with (first | (go_at_call 91; refine (blank_ok _ _).mono ?_; rintro e w1 ⟨rfl, hb1⟩))
    go_ret2
    exact ⟨rfl, (two_rows hb1).2.2⟩
  · go_enter Tryd.func84, Tryd.ntmps84
    have HN := fun w => name_one 121 (.inr (.inr rfl)) w
    go_wp2_with (first | (go_at_call 91; refine (blank_ok _ _).mono ?_; rintro e w1 ⟨rfl, hb1⟩; have t0 := (hb1.cell (p := ⟨w.heap.size, 0, none⟩) (block_lt_of_cell q0)).trans q0) | (go_at_call 17; refine (HN _).mono ?_; rintro e w2 ⟨rfl, hb2⟩; obtain ⟨p0, p1, hb3⟩ := two_rows hb2; clear hb2; have q0 := p0 0; have q1 := p0 1; have q2 := p0 2; have q3 := p0 3; have q4 := p0 4; have r0 := p1 0; have r1 := p1 1; have r2 := p1 2; have r3 := p1 3; have r4 := p1 4; clear p0 p1; simp at q0 q1 q2 q3 q4 r0 r1 r2 r3 r4))
    go_ret2
    exact ⟨rfl, hb3.trans (hb1.mono hb3.size)⟩
  · go_enter Tryd.func84, Tryd.ntmps84
    go_wp2_with (first | (go_at_call 91; refine (blank_ok _ _).mono ?_; rintro e w1 ⟨rfl, hb1⟩))
    go_ret2
    exact ⟨rfl, (two_rows hb1).2.2⟩
  · go_enter Tryd.func84, Tryd.ntmps84
    have HN := fun w => level_pos op ho w
    clear ho
    go_wp2_with (first | (go_at_call 91; refine (blank_ok _ _).mono ?_; rintro e w1 ⟨rfl, hb1⟩) | (go_at_call 52; refine (HN _).mono ?_; rintro e w2 ⟨l, rfl, hl, hb2⟩; obtain ⟨p0, p1, hb3⟩ := two_rows hb2; clear hb2; have q0 := p0 0; have q1 := p0 1; have q2 := p0 2; have q3 := p0 3; have q4 := p0 4; have r0 := p1 0; have r1 := p1 1; have r2 := p1 2; have r3 := p1 3; have r4 := p1 4; clear p0 p1; simp at q0 q1 q2 q3 q4 r0 r1 r2 r3 r4))
    go_ret2
    exact ⟨rfl, hb3.trans (hb1.mono hb3.size)⟩
end Go.Proofs.YtijpghipfopplaaDoor.PDe
