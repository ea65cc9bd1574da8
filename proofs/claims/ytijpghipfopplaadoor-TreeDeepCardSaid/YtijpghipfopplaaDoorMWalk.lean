/- TreeDeep's walk: printed by ch03-law.py, one way for each of the four kinds. TreeDeep's walk at expressions that stand in one another, and at each kind: printed by ch03-law.py. -/
import Derived.Test.YtijpghipfopplaaDoorMRefC
set_option linter.unusedVariables false
set_option linter.unusedSimpArgs false
namespace Go.Proofs.YtijpghipfopplaaDoor.PDe
open Go.RowKit Go.Proofs.YtijpghipfopplaaDoorW.PrintWords

theorem set3 {g : Nat} {a b c d e : Value} {w : World} (hg : w.heap[g]? = some (.cells #[a, b, c, d, e] 24 (0, 0))) (a' b' c' d' e' : Value) :
    (((((w.setCell ⟨g, 0, none⟩ a').setCell ⟨g, 1, none⟩ b').setCell ⟨g, 2, none⟩ c').setCell ⟨g, 3, none⟩ d').setCell ⟨g, 4, none⟩ e').heap[g]? = some (.cells #[a', b', c', d', e'] 24 (0, 0)) := by
  have h0 : (w.setCell ⟨g, 0, none⟩ a').heap[g]? = some (.cells #[a', b, c, d, e] 24 (0, 0)) := by rw [heap_setCell_same w g 0 _ 24 a' hg]; rfl
  have h1 : ((w.setCell ⟨g, 0, none⟩ a').setCell ⟨g, 1, none⟩ b').heap[g]? = some (.cells #[a', b', c, d, e] 24 (0, 0)) := by rw [heap_setCell_same _ g 1 _ 24 b' h0]; rfl
  have h2 : (((w.setCell ⟨g, 0, none⟩ a').setCell ⟨g, 1, none⟩ b').setCell ⟨g, 2, none⟩ c').heap[g]? = some (.cells #[a', b', c', d, e] 24 (0, 0)) := by rw [heap_setCell_same _ g 2 _ 24 c' h1]; rfl
  have h3 : ((((w.setCell ⟨g, 0, none⟩ a').setCell ⟨g, 1, none⟩ b').setCell ⟨g, 2, none⟩ c').setCell ⟨g, 3, none⟩ d').heap[g]? = some (.cells #[a', b', c', d', e] 24 (0, 0)) := by rw [heap_setCell_same _ g 3 _ 24 d' h2]; rfl
  rw [heap_setCell_same _ g 4 _ 24 e' h3]; rfl
theorem far5 (g : Nat) (a' b' c' d' e' : Value) (w : World) (k : Nat) (hk : k ≠ g) :
    (((((w.setCell ⟨g, 0, none⟩ a').setCell ⟨g, 1, none⟩ b').setCell ⟨g, 2, none⟩ c').setCell ⟨g, 3, none⟩ d').setCell ⟨g, 4, none⟩ e').heap[k]? = w.heap[k]? := by
  rw [heap_setCell_other _ ⟨g, 4, none⟩ k _ hk, heap_setCell_other _ ⟨g, 3, none⟩ k _ hk, heap_setCell_other _ ⟨g, 2, none⟩ k _ hk, heap_setCell_other _ ⟨g, 1, none⟩ k _ hk, heap_setCell_other _ ⟨g, 0, none⟩ k _ hk]
/-- The law's expression so far, in block E. -/
def Held (E : Nat) (w0 : World) (x : Ex) (w : World) : Prop := ∃ cs : List Value, Lay E w x cs ∧ w.heap[E]? = some (.cells cs.toArray 24 (0, 0)) ∧ Below E w0 w
theorem five_row {w : World} {B T : Nat} {a b c d e : Value} (h : w.heap[B]? = some (.cells #[a, b, c, d, e] T (0, 0))) :
    (w.cell? ⟨B, 0, none⟩ = some a ∧ w.cell? ⟨B, 1, none⟩ = some b ∧ w.cell? ⟨B, 2, none⟩ = some c ∧ w.cell? ⟨B, 3, none⟩ = some d ∧ w.cell? ⟨B, 4, none⟩ = some e) ∧
    (w.frozen? ⟨B, 0, none⟩ = false ∧ w.frozen? ⟨B, 1, none⟩ = false ∧ w.frozen? ⟨B, 2, none⟩ = false ∧ w.frozen? ⟨B, 3, none⟩ = false ∧ w.frozen? ⟨B, 4, none⟩ = false) :=
  ⟨⟨cell_of_row _ _ 0 _ _ _ h, cell_of_row _ _ 1 _ _ _ h, cell_of_row _ _ 2 _ _ _ h, cell_of_row _ _ 3 _ _ _ h, cell_of_row _ _ 4 _ _ _ h⟩,
   ⟨frozen_of_row _ _ 0 _ _ h, frozen_of_row _ _ 1 _ _ h, frozen_of_row _ _ 2 _ _ h, frozen_of_row _ _ 3 _ _ h, frozen_of_row _ _ 4 _ _ h⟩⟩
theorem Lay.cells {E : Nat} {w : World} {x : Ex} {cs : List Value} (h : Lay E w x cs) : ∃ (K O N : Int) (S : ByteArray) (A : Option Addr) (L c : Nat), cs = [.int .i64 K, .int .i64 O, .int .i64 N, .string S, .slice A L c] := by
  obtain ⟨A, c, h, _⟩ := kE_open h.K
  exact ⟨_, _, _, _, _, _, _, h⟩
theorem held_neg {E : Nat} {w0 w : World} {x : Ex} {cs : List Value} (hl : Lay E w x cs) (hr : w.heap[E]? = some (.cells cs.toArray 24 (0, 0))) (hb : Below E w0 w) :
    Held E w0 (.neg x) ((((((w.setCell ⟨E, 0, none⟩ (.int .i64 4)).setCell ⟨E, 1, none⟩ (.int .i64 20)).setCell ⟨E, 2, none⟩ (.int .i64 0)).setCell ⟨E, 3, none⟩ (.string ⟨#[]⟩)).setCell ⟨E, 4, none⟩ (.slice (some ⟨w.heap.size, 0, none⟩) 1 1)).alloc (.cells (cs).toArray 24)) := by
  have hE : E < w.heap.size := (Array.getElem?_eq_some_iff.1 hr).1
  obtain ⟨K, O, NN, S, A, L, c, rfl⟩ := hl.cells
  obtain ⟨V, hV⟩ : ∃ V, V = (((((w.setCell ⟨E, 0, none⟩ (.int .i64 4)).setCell ⟨E, 1, none⟩ (.int .i64 20)).setCell ⟨E, 2, none⟩ (.int .i64 0)).setCell ⟨E, 3, none⟩ (.string ⟨#[]⟩)).setCell ⟨E, 4, none⟩ (.slice (some ⟨w.heap.size, 0, none⟩) 1 1)) := ⟨_, rfl⟩
  have hs : V.heap.size = w.heap.size := by rw [hV]; simp
  have hVE : V.heap[E]? = some (.cells #[.int .i64 4, .int .i64 20, .int .i64 0, .string ⟨#[]⟩, .slice (some ⟨w.heap.size, 0, none⟩) 1 1] 24 (0, 0)) := by rw [hV]; exact set3 hr _ _ _ _ _
  have hVo : ∀ k, k ≠ E → V.heap[k]? = w.heap[k]? := fun k hk => by rw [hV]; exact far5 _ _ _ _ _ _ _ k hk
  have hVb : Below E w0 V := by
    rw [hV]
    exact ((((hb.setCell (p := ⟨E, 0, none⟩) (Nat.le_refl _) _).setCell (p := ⟨E, 1, none⟩) (Nat.le_refl _) _).setCell (p := ⟨E, 2, none⟩) (Nat.le_refl _) _).setCell (p := ⟨E, 3, none⟩) (Nat.le_refl _) _).setCell (p := ⟨E, 4, none⟩) (Nat.le_refl _) _
  rw [← hV]
  refine ⟨_, ⟨w.heap.size, _, by omega, ?_, hl.move (fun b hne hlt => ?_), rfl⟩, ?_, ?_⟩
  · rw [← hs]; exact heap_alloc_new V _
  · rw [Go.heap_alloc_old V _ (by omega)]; exact hVo b hne
  · rw [Go.heap_alloc_old V _ (by omega)]; exact hVE
  · exact hVb.alloc (by omega) _
theorem held_sub {E : Nat} {w0 w : World} {x : Ex} {cs : List Value} (hl : Lay E w x cs) (hr : w.heap[E]? = some (.cells cs.toArray 24 (0, 0))) (hb : Below E w0 w) :
    Held E w0 (.two 1 (.num 0) x) ((((((w.setCell ⟨E, 0, none⟩ (.int .i64 5)).setCell ⟨E, 1, none⟩ (.int .i64 2)).setCell ⟨E, 2, none⟩ (.int .i64 0)).setCell ⟨E, 3, none⟩ (.string ⟨#[]⟩)).setCell ⟨E, 4, none⟩ (.slice (some ⟨w.heap.size, 0, none⟩) 2 2)).alloc (.cells ([Value.int .i64 1, Value.int .i64 0, Value.int .i64 0, Value.string ⟨#[]⟩, Value.slice none 0 0] ++ cs).toArray 24)) := by
  have hE : E < w.heap.size := (Array.getElem?_eq_some_iff.1 hr).1
  obtain ⟨K, O, NN, S, A, L, c, rfl⟩ := hl.cells
  obtain ⟨V, hV⟩ : ∃ V, V = (((((w.setCell ⟨E, 0, none⟩ (.int .i64 5)).setCell ⟨E, 1, none⟩ (.int .i64 2)).setCell ⟨E, 2, none⟩ (.int .i64 0)).setCell ⟨E, 3, none⟩ (.string ⟨#[]⟩)).setCell ⟨E, 4, none⟩ (.slice (some ⟨w.heap.size, 0, none⟩) 2 2)) := ⟨_, rfl⟩
  have hs : V.heap.size = w.heap.size := by rw [hV]; simp
  have hVE : V.heap[E]? = some (.cells #[.int .i64 5, .int .i64 2, .int .i64 0, .string ⟨#[]⟩, .slice (some ⟨w.heap.size, 0, none⟩) 2 2] 24 (0, 0)) := by rw [hV]; exact set3 hr _ _ _ _ _
  have hVo : ∀ k, k ≠ E → V.heap[k]? = w.heap[k]? := fun k hk => by rw [hV]; exact far5 _ _ _ _ _ _ _ k hk
  have hVb : Below E w0 V := by
    rw [hV]
    exact ((((hb.setCell (p := ⟨E, 0, none⟩) (Nat.le_refl _) _).setCell (p := ⟨E, 1, none⟩) (Nat.le_refl _) _).setCell (p := ⟨E, 2, none⟩) (Nat.le_refl _) _).setCell (p := ⟨E, 3, none⟩) (Nat.le_refl _) _).setCell (p := ⟨E, 4, none⟩) (Nat.le_refl _) _
  rw [← hV]
  refine ⟨_, ⟨w.heap.size, _, _, by omega, ?_, rfl, hl.move (fun b hne hlt => ?_), rfl⟩, ?_, ?_⟩
  · rw [← hs]; exact heap_alloc_new V _
  · rw [Go.heap_alloc_old V _ (by omega)]; exact hVo b hne
  · rw [Go.heap_alloc_old V _ (by omega)]; exact hVE
  · exact hVb.alloc (by omega) _

set_option maxHeartbeats 4000000 in
set_option maxRecDepth 100000 in
theorem deep2 (n k : Int) (hn0 : 0 ≤ n) (hn1 : n ≤ 255) (hk0 : 0 ≤ k) (hk1 : k ≤ 255) (hk : k % 4 = 2) (w : World) :
    Calls Tryd.prog 3 #[.int .u8 n, .int .u8 k] w fun e w' => e = .returned (.bool true) ∧ Below w.heap.size w w' := by
  have hu24 := Tryd.underlying24
  have hu27 := Tryd.underlying27
  have hu30 := Tryd.underlying30
  have hu34 := Tryd.underlying34
  obtain ⟨N, hN⟩ : ∃ N : Nat, (N : Int) = 90 + n % 20 := ⟨(90 + n % 20).toNat, by omega⟩
  have hNb : 90 ≤ N ∧ N ≤ 109 := by omega
  have HN := Aside0.mk hN
  clear hN
  go_enter Tryd.func3, Tryd.ntmps3
  go_wp2
  go_loopg [6, 7] N (fun g l v wr => ∃ i : Nat, i + g = N ∧ v = .int .i64 i ∧ ∃ A c, l = .slice A (whils i).lst.length c ∧ Aside0 ((whils i).lst.length ≤ c ∧ Kd.C kS wr A (whils i).lst.length (whils i).lst ∧ Below w.heap.size w wr))
  case atStart => exact ⟨0, by omega, rfl, none, 0, rfl, ⟨Nat.zero_le _, C_nil kS _ _, (Below.refl _ w).alloc (Nat.le_refl _) _⟩⟩
  case round =>
    obtain ⟨i, hi, rfl, A, c, rfl, HC⟩ := hrel
    by_cases hlt : i < N
    · have hltz : (i : Int) < 90 + n % 20 := by rw [← HN.out]; omega
      go_wp2
      go_roundg (N - (i + 1))
      case measure => omega
      case rel =>
        obtain ⟨hc, hC, hb⟩ := HC.out
        refine ⟨i + 1, by omega, by go_num, some ⟨wr.heap.size + 1, 0, none⟩, 1, rfl, ⟨Nat.le_refl 1, ?_, ?_⟩⟩
        · exact C_one kS (wr.alloc _) (.whil (whils i)) [_, _, _, _, _, _] 27 (kS_mk _ (.whil (whils i)) (Nat.le_refl 1) (C_one kE wr (.num 0) [_, _, _, _, _] 24 (kE_leaf wr 0 none 0) _ rfl) hc (Kd.C_below hC ((Below.refl _ _).alloc (Nat.le_refl _) _)) (Nat.zero_le 0) (C_nil kS _ none)) _ (by simp)
        · have := hb.size
          exact (hb.alloc this _).alloc (by simp; omega) _
    · have hltz : ¬ (i : Int) < 90 + n % 20 := by rw [← HN.out]; omega
      have hiN : i = N := by omega
      subst hiN
      clear hlt hi
      obtain ⟨W1, hW1⟩ : ∃ W1, W1 = wr.alloc (.cells #[.string ⟨#[102]⟩, .int .i64 1, .slice none 0 0, .slice A (whils i).lst.length c] 30) := ⟨_, rfl⟩
      obtain ⟨W2, hW2⟩ : ∃ W2, W2 = W1.alloc (.cells #[.slice none 0 0, .slice (some ⟨wr.heap.size, 0, none⟩) 1 1] 34) := ⟨_, rfl⟩
      have s1 : W1.heap.size = wr.heap.size + 1 := by rw [hW1]; simp
      have hF : Kd.C kF W1 (some ⟨wr.heap.size, 0, none⟩) 1 [.fn false (body 2 i)] := by
        rw [hW1]; exact C_one kF wr _ [_, _, _, _] 30 (kF_mk wr (.fn false (body 2 i)) HC.out.1 HC.out.2.1) _ rfl
      have b2 : Below W1.heap.size W1 W2 := by rw [hW2]; exact (Below.refl _ _).alloc (Nat.le_refl _) _
      have hF2 := Kd.C_below hF b2
      have B2 : Below w.heap.size w W2 := by
        have hb := HC.out.2.2
        have := hb.size
        rw [hW2, hW1]; exact (hb.alloc this _).alloc (by simp; omega) _
      have r2 : W2.heap[wr.heap.size + 1]? = some (.cells #[.slice none 0 0, .slice (some ⟨wr.heap.size, 0, none⟩) 1 1] 34 (0, 0)) := by rw [hW2, ← s1]; exact heap_alloc_new W1 _
      have H4 := Aside0.mk (print_any 2 i (by omega) none 0 _ 1 W2 (C_nil k49 W2 none) hF2)
      have H5 : Aside0 (∀ w', Below W2.heap.size W2 w' → Calls Tryd.prog 5 #[.agg #[.slice none 0 0, .slice (some ⟨wr.heap.size, 0, none⟩) 1 1]] w' fun e w'' => e = .returned (.tuple #[.string (outS (.fn false (body 2 i))), .int .i64 (outE (.fn false (body 2 i)))]) ∧ Below w'.heap.size w' w'') := ⟨fun w' hb => rprint_any 2 i (by omega) none 0 _ 1 w' (C_nil k49 w' none) (Kd.C_below hF2 hb)⟩
      have H7 : Aside0 (∀ w', Below W2.heap.size W2 w' → Calls Tryd.prog 7 #[.agg #[.slice none 0 0, .slice (some ⟨wr.heap.size, 0, none⟩) 1 1]] w' fun e w'' => e = .returned (.bool (Fn1.fn false (body 2 i)).ok) ∧ Below w'.heap.size w' w'') := ⟨fun w' hb => right_calls _ none 0 _ 1 w' (C_nil k49 w' none) (Kd.C_below hF2 hb)⟩
      have H8 : Aside0 (∀ w', Below W2.heap.size W2 w' → Calls Tryd.prog 8 #[.agg #[.slice none 0 0, .slice (some ⟨wr.heap.size, 0, none⟩) 1 1]] w' fun e w'' => e = .returned (.bool (Fn1.fn false (body 2 i)).ok) ∧ Below w'.heap.size w' w'') := ⟨fun w' hb => rright_calls _ none 0 _ 1 w' (C_nil k49 w' none) (Kd.C_below hF2 hb)⟩
      have H6 := fun w => awake_calls w
      generalize outS (.fn false (body 2 i)) = SS at *
      generalize outE (.fn false (body 2 i)) = EE at *
      generalize (Fn1.fn false (body 2 i)).ok = q at *
      have HW1 := Aside0.mk hW1; have HW2 := Aside0.mk hW2; have HB2 := Aside0.mk B2; have HR2 := Aside0.mk r2
      clear hW1 hW2 B2 r2 hF hF2 b2 s1 HN HC
      go_wp2_with (first
        | (go_at_call 4; rw [← HW1.out, ← HW2.out]; refine H4.out.mono ?_; rintro e v1 ⟨rfl, hb1⟩; have Q1 := Aside0.mk hb1; have R1 := Aside0.mk (row_keep hb1 HR2.out); obtain ⟨x0, x1⟩ := two_row R1.out; clear hb1)
        | (go_at_call 5; refine (H5.out _ Q1.out).mono ?_; rintro e v2 ⟨rfl, hb2⟩; have Q2 := Aside0.mk (Q1.out.trans (hb2.mono Q1.out.size)); have R2 := Aside0.mk (row_keep hb2 R1.out); obtain ⟨x0, x1⟩ := two_row R2.out; clear hb2))
      have hl2 : wr.heap.size + 1 < v2.heap.size := block_lt_of_cell x0
      go_region_held3 (fun w' => w'.cell? ⟨wr.heap.size + 1, 0, none⟩ = some (.slice none 0 0) ∧ w'.cell? ⟨wr.heap.size + 1, 1, none⟩ = some (.slice (some ⟨wr.heap.size, 0, none⟩) 1 1)) (first | exact ⟨x0, x1⟩ | exact ⟨y0, y1⟩ | go_keep)
        (first
          | (go_at_call 6; refine (H6 _).mono ?_; rintro e v3 ⟨rfl, hb3⟩; have Q3 := Aside0.mk (Q2.out.drew.trans (hb3.mono Q2.out.drew.size)); have R3 := Aside0.mk (row_keep hb3 R2.out); obtain ⟨y0, y1⟩ := two_row R3.out; clear hb3)
          | (go_at_call 7; refine (H7.out _ Q3.out).mono ?_; rintro e v4 ⟨rfl, hb4⟩; have Q4 := Aside0.mk (Q3.out.trans (hb4.mono Q3.out.size)); have R4 := Aside0.mk (row_keep hb4 R3.out); obtain ⟨x0, x1⟩ := two_row R4.out; clear hb4)
          | (go_at_call 8; refine (H8.out _ Q4.out).mono ?_; rintro e v5 ⟨rfl, hb5⟩; have Q5 := Aside0.mk (Q4.out.trans (hb5.mono Q4.out.size)); have R5 := Aside0.mk (row_keep hb5 R4.out); obtain ⟨y0, y1⟩ := two_row R5.out; clear hb5))
      go_wp2
      go_ret
      exact ⟨rfl, HB2.out.trans (Q5.out.mono HB2.out.size)⟩
set_option maxHeartbeats 4000000 in
set_option maxRecDepth 100000 in
theorem deep3 (n k : Int) (hn0 : 0 ≤ n) (hn1 : n ≤ 255) (hk0 : 0 ≤ k) (hk1 : k ≤ 255) (hk : k % 4 = 3) (w : World) :
    Calls Tryd.prog 3 #[.int .u8 n, .int .u8 k] w fun e w' => e = .returned (.bool true) ∧ Below w.heap.size w w' := by
  have hu24 := Tryd.underlying24
  have hu27 := Tryd.underlying27
  have hu30 := Tryd.underlying30
  have hu34 := Tryd.underlying34
  obtain ⟨N, hN⟩ : ∃ N : Nat, (N : Int) = 90 + n % 20 := ⟨(90 + n % 20).toNat, by omega⟩
  have hNb : 90 ≤ N ∧ N ≤ 109 := by omega
  have HN := Aside0.mk hN
  clear hN
  go_enter Tryd.func3, Tryd.ntmps3
  go_wp2
  go_loopg [6, 7] N (fun g l v wr => ∃ i : Nat, i + g = N ∧ v = .int .i64 i ∧ ∃ A c, l = .slice A (iffs i).lst.length c ∧ Aside0 ((iffs i).lst.length ≤ c ∧ Kd.C kS wr A (iffs i).lst.length (iffs i).lst ∧ Below w.heap.size w wr))
  case atStart => exact ⟨0, by omega, rfl, none, 0, rfl, ⟨Nat.zero_le _, C_nil kS _ _, (Below.refl _ w).alloc (Nat.le_refl _) _⟩⟩
  case round =>
    obtain ⟨i, hi, rfl, A, c, rfl, HC⟩ := hrel
    by_cases hlt : i < N
    · have hltz : (i : Int) < 90 + n % 20 := by rw [← HN.out]; omega
      go_wp2
      go_roundg (N - (i + 1))
      case measure => omega
      case rel =>
        obtain ⟨hc, hC, hb⟩ := HC.out
        refine ⟨i + 1, by omega, by go_num, some ⟨wr.heap.size + 1, 0, none⟩, 1, rfl, ⟨Nat.le_refl 1, ?_, ?_⟩⟩
        · exact C_one kS (wr.alloc _) (.iff (iffs i)) [_, _, _, _, _, _] 27 (kS_mk _ (.iff (iffs i)) (Nat.le_refl 1) (C_one kE wr (.num 0) [_, _, _, _, _] 24 (kE_leaf wr 0 none 0) _ rfl) (Nat.zero_le 0) (C_nil kS _ none) hc (Kd.C_below hC ((Below.refl _ _).alloc (Nat.le_refl _) _))) _ (by simp)
        · have := hb.size
          exact (hb.alloc this _).alloc (by simp; omega) _
    · have hltz : ¬ (i : Int) < 90 + n % 20 := by rw [← HN.out]; omega
      have hiN : i = N := by omega
      subst hiN
      clear hlt hi
      obtain ⟨W1, hW1⟩ : ∃ W1, W1 = wr.alloc (.cells #[.string ⟨#[102]⟩, .int .i64 1, .slice none 0 0, .slice A (iffs i).lst.length c] 30) := ⟨_, rfl⟩
      obtain ⟨W2, hW2⟩ : ∃ W2, W2 = W1.alloc (.cells #[.slice none 0 0, .slice (some ⟨wr.heap.size, 0, none⟩) 1 1] 34) := ⟨_, rfl⟩
      have s1 : W1.heap.size = wr.heap.size + 1 := by rw [hW1]; simp
      have hF : Kd.C kF W1 (some ⟨wr.heap.size, 0, none⟩) 1 [.fn false (body 3 i)] := by
        rw [hW1]; exact C_one kF wr _ [_, _, _, _] 30 (kF_mk wr (.fn false (body 3 i)) HC.out.1 HC.out.2.1) _ rfl
      have b2 : Below W1.heap.size W1 W2 := by rw [hW2]; exact (Below.refl _ _).alloc (Nat.le_refl _) _
      have hF2 := Kd.C_below hF b2
      have B2 : Below w.heap.size w W2 := by
        have hb := HC.out.2.2
        have := hb.size
        rw [hW2, hW1]; exact (hb.alloc this _).alloc (by simp; omega) _
      have r2 : W2.heap[wr.heap.size + 1]? = some (.cells #[.slice none 0 0, .slice (some ⟨wr.heap.size, 0, none⟩) 1 1] 34 (0, 0)) := by rw [hW2, ← s1]; exact heap_alloc_new W1 _
      have H4 := Aside0.mk (print_any 3 i (by omega) none 0 _ 1 W2 (C_nil k49 W2 none) hF2)
      have H5 : Aside0 (∀ w', Below W2.heap.size W2 w' → Calls Tryd.prog 5 #[.agg #[.slice none 0 0, .slice (some ⟨wr.heap.size, 0, none⟩) 1 1]] w' fun e w'' => e = .returned (.tuple #[.string (outS (.fn false (body 3 i))), .int .i64 (outE (.fn false (body 3 i)))]) ∧ Below w'.heap.size w' w'') := ⟨fun w' hb => rprint_any 3 i (by omega) none 0 _ 1 w' (C_nil k49 w' none) (Kd.C_below hF2 hb)⟩
      have H7 : Aside0 (∀ w', Below W2.heap.size W2 w' → Calls Tryd.prog 7 #[.agg #[.slice none 0 0, .slice (some ⟨wr.heap.size, 0, none⟩) 1 1]] w' fun e w'' => e = .returned (.bool (Fn1.fn false (body 3 i)).ok) ∧ Below w'.heap.size w' w'') := ⟨fun w' hb => right_calls _ none 0 _ 1 w' (C_nil k49 w' none) (Kd.C_below hF2 hb)⟩
      have H8 : Aside0 (∀ w', Below W2.heap.size W2 w' → Calls Tryd.prog 8 #[.agg #[.slice none 0 0, .slice (some ⟨wr.heap.size, 0, none⟩) 1 1]] w' fun e w'' => e = .returned (.bool (Fn1.fn false (body 3 i)).ok) ∧ Below w'.heap.size w' w'') := ⟨fun w' hb => rright_calls _ none 0 _ 1 w' (C_nil k49 w' none) (Kd.C_below hF2 hb)⟩
      have H6 := fun w => awake_calls w
      generalize outS (.fn false (body 3 i)) = SS at *
      generalize outE (.fn false (body 3 i)) = EE at *
      generalize (Fn1.fn false (body 3 i)).ok = q at *
      have HW1 := Aside0.mk hW1; have HW2 := Aside0.mk hW2; have HB2 := Aside0.mk B2; have HR2 := Aside0.mk r2
      clear hW1 hW2 B2 r2 hF hF2 b2 s1 HN HC
      go_wp2_with (first
        | (go_at_call 4; rw [← HW1.out, ← HW2.out]; refine H4.out.mono ?_; rintro e v1 ⟨rfl, hb1⟩; have Q1 := Aside0.mk hb1; have R1 := Aside0.mk (row_keep hb1 HR2.out); obtain ⟨x0, x1⟩ := two_row R1.out; clear hb1)
        | (go_at_call 5; refine (H5.out _ Q1.out).mono ?_; rintro e v2 ⟨rfl, hb2⟩; have Q2 := Aside0.mk (Q1.out.trans (hb2.mono Q1.out.size)); have R2 := Aside0.mk (row_keep hb2 R1.out); obtain ⟨x0, x1⟩ := two_row R2.out; clear hb2))
      have hl2 : wr.heap.size + 1 < v2.heap.size := block_lt_of_cell x0
      go_region_held3 (fun w' => w'.cell? ⟨wr.heap.size + 1, 0, none⟩ = some (.slice none 0 0) ∧ w'.cell? ⟨wr.heap.size + 1, 1, none⟩ = some (.slice (some ⟨wr.heap.size, 0, none⟩) 1 1)) (first | exact ⟨x0, x1⟩ | exact ⟨y0, y1⟩ | go_keep)
        (first
          | (go_at_call 6; refine (H6 _).mono ?_; rintro e v3 ⟨rfl, hb3⟩; have Q3 := Aside0.mk (Q2.out.drew.trans (hb3.mono Q2.out.drew.size)); have R3 := Aside0.mk (row_keep hb3 R2.out); obtain ⟨y0, y1⟩ := two_row R3.out; clear hb3)
          | (go_at_call 7; refine (H7.out _ Q3.out).mono ?_; rintro e v4 ⟨rfl, hb4⟩; have Q4 := Aside0.mk (Q3.out.trans (hb4.mono Q3.out.size)); have R4 := Aside0.mk (row_keep hb4 R3.out); obtain ⟨x0, x1⟩ := two_row R4.out; clear hb4)
          | (go_at_call 8; refine (H8.out _ Q4.out).mono ?_; rintro e v5 ⟨rfl, hb5⟩; have Q5 := Aside0.mk (Q4.out.trans (hb5.mono Q4.out.size)); have R5 := Aside0.mk (row_keep hb5 R4.out); obtain ⟨y0, y1⟩ := two_row R5.out; clear hb5))
      go_wp2
      go_ret
      exact ⟨rfl, HB2.out.trans (Q5.out.mono HB2.out.size)⟩
end Go.Proofs.YtijpghipfopplaaDoor.PDe
namespace Go.Proofs.YtijpghipfopplaaDoor.PDe
open Go.RowKit Go.Proofs.YtijpghipfopplaaDoorW.PrintWords

set_option maxHeartbeats 4000000 in
set_option maxRecDepth 100000 in
theorem deep0 (n k : Int) (hn0 : 0 ≤ n) (hn1 : n ≤ 255) (hk0 : 0 ≤ k) (hk1 : k ≤ 255) (hk : k % 4 = 0) (w : World) :
    Calls Tryd.prog 3 #[.int .u8 n, .int .u8 k] w fun e w' => e = .returned (.bool true) ∧ Below w.heap.size w w' := by
  have hu24 := Tryd.underlying24
  have hu27 := Tryd.underlying27
  have hu30 := Tryd.underlying30
  have hu34 := Tryd.underlying34
  obtain ⟨N, hN⟩ : ∃ N : Nat, (N : Int) = 90 + n % 20 := ⟨(90 + n % 20).toNat, by omega⟩
  have hNb : 90 ≤ N ∧ N ≤ 109 := by omega
  have HN := Aside0.mk hN
  clear hN
  go_enter Tryd.func3, Tryd.ntmps3
  go_wp2
  go_loopg [6, 7] N (fun g l v wr => ∃ i : Nat, i + g = N ∧ v = .int .i64 i ∧ l = .slice none 0 0 ∧ Aside0 (Held w.heap.size w (negs i) wr))
  case atStart => exact ⟨0, by omega, rfl, rfl, ⟨⟨_, rfl, heap_alloc_new w _, (Below.refl _ w).alloc (Nat.le_refl _) _⟩⟩⟩
  case round =>
    obtain ⟨i, hi, rfl, rfl, HC⟩ := hrel
    obtain ⟨cs, hlay, hrow, hb⟩ := HC.out
    clear HC
    have hE : w.heap.size < wr.heap.size := (Array.getElem?_eq_some_iff.1 hrow).1
    obtain ⟨K, O, NN, S, A, L, c, rfl⟩ := hlay.cells
    obtain ⟨⟨e0, e1, e2, e3, e4⟩, ⟨f0, f1, f2, f3, f4⟩⟩ := five_row hrow
    by_cases hlt : i < N
    · have hltz : (i : Int) < 90 + n % 20 := by rw [← HN.out]; omega
      have HREL := Aside0.mk (held_neg hlay hrow hb)
      clear hlay hrow hb
      try simp only [List.cons_append, List.nil_append] at HREL
      go_wp2
      go_roundg (N - (i + 1))
      case measure => omega
      case rel => exact ⟨i + 1, by omega, by go_num, rfl, HREL⟩
    · have hltz : ¬ (i : Int) < 90 + n % 20 := by rw [← HN.out]; omega
      have hiN : i = N := by omega
      subst hiN
      clear hlt hi
      have hKx := hlay.K
      clear hlay
      obtain ⟨U1, hU1⟩ : ∃ U1, U1 = wr.alloc (.cells #[.int .i64 K, .int .i64 O, .int .i64 NN, .string S, .slice A L c] 24) := ⟨_, rfl⟩
      obtain ⟨U2, hU2⟩ : ∃ U2, U2 = U1.alloc (.cells #[.int .i64 8, .int .i64 0, .string ⟨#[]⟩, .slice (some ⟨wr.heap.size, 0, none⟩) 1 1, .slice none 0 0, .slice none 0 0] 27) := ⟨_, rfl⟩
      obtain ⟨W1, hW1⟩ : ∃ W1, W1 = U2.alloc (.cells #[.string ⟨#[102]⟩, .int .i64 1, .slice none 0 0, .slice (some ⟨wr.heap.size + 1, 0, none⟩) 1 1] 30) := ⟨_, rfl⟩
      obtain ⟨W2, hW2⟩ : ∃ W2, W2 = W1.alloc (.cells #[.slice none 0 0, .slice (some ⟨wr.heap.size + 1 + 1, 0, none⟩) 1 1] 34) := ⟨_, rfl⟩
      have t1 : U1.heap.size = wr.heap.size + 1 := by rw [hU1]; simp
      have t2 : U2.heap.size = wr.heap.size + 1 + 1 := by rw [hU2]; simp [t1]
      have s1 : W1.heap.size = wr.heap.size + 1 + 1 + 1 := by rw [hW1]; simp [t2]
      have c1 : Kd.C kE U1 (some ⟨wr.heap.size, 0, none⟩) 1 [negs i] := by rw [hU1]; exact C_one kE wr _ [_, _, _, _, _] 24 hKx _ rfl
      have c2 : Kd.C kS U2 (some ⟨wr.heap.size + 1, 0, none⟩) 1 [.ret (negs i)] := by
        rw [hU2]; exact C_one kS U1 _ [_, _, _, _, _, _] 27 (kS_mk U1 (.ret (negs i)) (Nat.le_refl 1) c1 (Nat.zero_le 0) (C_nil kS _ none) (Nat.zero_le 0) (C_nil kS _ none)) _ t1
      have hF : Kd.C kF W1 (some ⟨wr.heap.size + 1 + 1, 0, none⟩) 1 [.fn false (body 0 i)] := by
        rw [hW1]; exact C_one kF U2 _ [_, _, _, _] 30 (kF_mk U2 (.fn false (body 0 i)) (Nat.le_refl 1) c2) _ t2
      have b2 : Below W1.heap.size W1 W2 := by rw [hW2]; exact (Below.refl _ _).alloc (Nat.le_refl _) _
      have hF2 := Kd.C_below hF b2
      have B2 : Below w.heap.size w W2 := by
        have := hb.size
        have g1 : Below w.heap.size w U1 := by rw [hU1]; exact hb.alloc (by omega) _
        have g2 : Below w.heap.size w U2 := by rw [hU2]; exact g1.alloc (by omega) _
        have g3 : Below w.heap.size w W1 := by rw [hW1]; exact g2.alloc (by omega) _
        rw [hW2]; exact g3.alloc (by omega) _
      have r2 : W2.heap[wr.heap.size + 1 + 1 + 1]? = some (.cells #[.slice none 0 0, .slice (some ⟨wr.heap.size + 1 + 1, 0, none⟩) 1 1] 34 (0, 0)) := by rw [hW2, ← s1]; exact heap_alloc_new W1 _
      have H4 := Aside0.mk (print_any 0 i (by omega) none 0 _ 1 W2 (C_nil k49 W2 none) hF2)
      have H5 : Aside0 (∀ w', Below W2.heap.size W2 w' → Calls Tryd.prog 5 #[.agg #[.slice none 0 0, .slice (some ⟨wr.heap.size + 1 + 1, 0, none⟩) 1 1]] w' fun e w'' => e = .returned (.tuple #[.string (outS (.fn false (body 0 i))), .int .i64 (outE (.fn false (body 0 i)))]) ∧ Below w'.heap.size w' w'') := ⟨fun w' hb => rprint_any 0 i (by omega) none 0 _ 1 w' (C_nil k49 w' none) (Kd.C_below hF2 hb)⟩
      have H7 : Aside0 (∀ w', Below W2.heap.size W2 w' → Calls Tryd.prog 7 #[.agg #[.slice none 0 0, .slice (some ⟨wr.heap.size + 1 + 1, 0, none⟩) 1 1]] w' fun e w'' => e = .returned (.bool (Fn1.fn false (body 0 i)).ok) ∧ Below w'.heap.size w' w'') := ⟨fun w' hb => right_calls _ none 0 _ 1 w' (C_nil k49 w' none) (Kd.C_below hF2 hb)⟩
      have H8 : Aside0 (∀ w', Below W2.heap.size W2 w' → Calls Tryd.prog 8 #[.agg #[.slice none 0 0, .slice (some ⟨wr.heap.size + 1 + 1, 0, none⟩) 1 1]] w' fun e w'' => e = .returned (.bool (Fn1.fn false (body 0 i)).ok) ∧ Below w'.heap.size w' w'') := ⟨fun w' hb => rright_calls _ none 0 _ 1 w' (C_nil k49 w' none) (Kd.C_below hF2 hb)⟩
      have H6 := fun w => awake_calls w
      generalize outS (.fn false (body 0 i)) = SS at *
      generalize outE (.fn false (body 0 i)) = EE at *
      generalize (Fn1.fn false (body 0 i)).ok = q at *
      have HU1 := Aside0.mk hU1; have HU2 := Aside0.mk hU2; have HW1 := Aside0.mk hW1; have HW2 := Aside0.mk hW2; have HB2 := Aside0.mk B2; have HR2 := Aside0.mk r2
      clear hU1 hU2 hW1 hW2 B2 r2 hF hF2 b2 s1 HN t1 t2 c1 c2 hKx hrow hb
      go_wp2_with (first
        | (go_at_call 4; rw [← HU1.out, ← HU2.out, ← HW1.out, ← HW2.out]; refine H4.out.mono ?_; rintro e v1 ⟨rfl, hb1⟩; have Q1 := Aside0.mk hb1; have R1 := Aside0.mk (row_keep hb1 HR2.out); obtain ⟨x0, x1⟩ := two_row R1.out; clear hb1)
        | (go_at_call 5; refine (H5.out _ Q1.out).mono ?_; rintro e v2 ⟨rfl, hb2⟩; have Q2 := Aside0.mk (Q1.out.trans (hb2.mono Q1.out.size)); have R2 := Aside0.mk (row_keep hb2 R1.out); obtain ⟨x0, x1⟩ := two_row R2.out; clear hb2))
      have hl2 : wr.heap.size + 1 + 1 + 1 < v2.heap.size := block_lt_of_cell x0
      go_region_held3 (fun w' => w'.cell? ⟨wr.heap.size + 1 + 1 + 1, 0, none⟩ = some (.slice none 0 0) ∧ w'.cell? ⟨wr.heap.size + 1 + 1 + 1, 1, none⟩ = some (.slice (some ⟨wr.heap.size + 1 + 1, 0, none⟩) 1 1)) (first | exact ⟨x0, x1⟩ | exact ⟨y0, y1⟩ | go_keep)
        (first
          | (go_at_call 6; refine (H6 _).mono ?_; rintro e v3 ⟨rfl, hb3⟩; have Q3 := Aside0.mk (Q2.out.drew.trans (hb3.mono Q2.out.drew.size)); have R3 := Aside0.mk (row_keep hb3 R2.out); obtain ⟨y0, y1⟩ := two_row R3.out; clear hb3)
          | (go_at_call 7; refine (H7.out _ Q3.out).mono ?_; rintro e v4 ⟨rfl, hb4⟩; have Q4 := Aside0.mk (Q3.out.trans (hb4.mono Q3.out.size)); have R4 := Aside0.mk (row_keep hb4 R3.out); obtain ⟨x0, x1⟩ := two_row R4.out; clear hb4)
          | (go_at_call 8; refine (H8.out _ Q4.out).mono ?_; rintro e v5 ⟨rfl, hb5⟩; have Q5 := Aside0.mk (Q4.out.trans (hb5.mono Q4.out.size)); have R5 := Aside0.mk (row_keep hb5 R4.out); obtain ⟨y0, y1⟩ := two_row R5.out; clear hb5))
      go_wp2
      go_ret
      exact ⟨rfl, HB2.out.trans (Q5.out.mono HB2.out.size)⟩
set_option maxHeartbeats 4000000 in
set_option maxRecDepth 100000 in
theorem deep1 (n k : Int) (hn0 : 0 ≤ n) (hn1 : n ≤ 255) (hk0 : 0 ≤ k) (hk1 : k ≤ 255) (hk : k % 4 = 1) (w : World) :
    Calls Tryd.prog 3 #[.int .u8 n, .int .u8 k] w fun e w' => e = .returned (.bool true) ∧ Below w.heap.size w w' := by
  have hu24 := Tryd.underlying24
  have hu27 := Tryd.underlying27
  have hu30 := Tryd.underlying30
  have hu34 := Tryd.underlying34
  obtain ⟨N, hN⟩ : ∃ N : Nat, (N : Int) = 90 + n % 20 := ⟨(90 + n % 20).toNat, by omega⟩
  have hNb : 90 ≤ N ∧ N ≤ 109 := by omega
  have HN := Aside0.mk hN
  clear hN
  go_enter Tryd.func3, Tryd.ntmps3
  go_wp2
  go_loopg [6, 7] N (fun g l v wr => ∃ i : Nat, i + g = N ∧ v = .int .i64 i ∧ l = .slice none 0 0 ∧ Aside0 (Held w.heap.size w (subs i) wr))
  case atStart => exact ⟨0, by omega, rfl, rfl, ⟨⟨_, rfl, heap_alloc_new w _, (Below.refl _ w).alloc (Nat.le_refl _) _⟩⟩⟩
  case round =>
    obtain ⟨i, hi, rfl, rfl, HC⟩ := hrel
    obtain ⟨cs, hlay, hrow, hb⟩ := HC.out
    clear HC
    have hE : w.heap.size < wr.heap.size := (Array.getElem?_eq_some_iff.1 hrow).1
    obtain ⟨K, O, NN, S, A, L, c, rfl⟩ := hlay.cells
    obtain ⟨⟨e0, e1, e2, e3, e4⟩, ⟨f0, f1, f2, f3, f4⟩⟩ := five_row hrow
    by_cases hlt : i < N
    · have hltz : (i : Int) < 90 + n % 20 := by rw [← HN.out]; omega
      have HREL := Aside0.mk (held_sub hlay hrow hb)
      clear hlay hrow hb
      try simp only [List.cons_append, List.nil_append] at HREL
      go_wp2
      go_roundg (N - (i + 1))
      case measure => omega
      case rel => exact ⟨i + 1, by omega, by go_num, rfl, HREL⟩
    · have hltz : ¬ (i : Int) < 90 + n % 20 := by rw [← HN.out]; omega
      have hiN : i = N := by omega
      subst hiN
      clear hlt hi
      have hKx := hlay.K
      clear hlay
      obtain ⟨U1, hU1⟩ : ∃ U1, U1 = wr.alloc (.cells #[.int .i64 K, .int .i64 O, .int .i64 NN, .string S, .slice A L c] 24) := ⟨_, rfl⟩
      obtain ⟨U2, hU2⟩ : ∃ U2, U2 = U1.alloc (.cells #[.int .i64 8, .int .i64 0, .string ⟨#[]⟩, .slice (some ⟨wr.heap.size, 0, none⟩) 1 1, .slice none 0 0, .slice none 0 0] 27) := ⟨_, rfl⟩
      obtain ⟨W1, hW1⟩ : ∃ W1, W1 = U2.alloc (.cells #[.string ⟨#[102]⟩, .int .i64 1, .slice none 0 0, .slice (some ⟨wr.heap.size + 1, 0, none⟩) 1 1] 30) := ⟨_, rfl⟩
      obtain ⟨W2, hW2⟩ : ∃ W2, W2 = W1.alloc (.cells #[.slice none 0 0, .slice (some ⟨wr.heap.size + 1 + 1, 0, none⟩) 1 1] 34) := ⟨_, rfl⟩
      have t1 : U1.heap.size = wr.heap.size + 1 := by rw [hU1]; simp
      have t2 : U2.heap.size = wr.heap.size + 1 + 1 := by rw [hU2]; simp [t1]
      have s1 : W1.heap.size = wr.heap.size + 1 + 1 + 1 := by rw [hW1]; simp [t2]
      have c1 : Kd.C kE U1 (some ⟨wr.heap.size, 0, none⟩) 1 [subs i] := by rw [hU1]; exact C_one kE wr _ [_, _, _, _, _] 24 hKx _ rfl
      have c2 : Kd.C kS U2 (some ⟨wr.heap.size + 1, 0, none⟩) 1 [.ret (subs i)] := by
        rw [hU2]; exact C_one kS U1 _ [_, _, _, _, _, _] 27 (kS_mk U1 (.ret (subs i)) (Nat.le_refl 1) c1 (Nat.zero_le 0) (C_nil kS _ none) (Nat.zero_le 0) (C_nil kS _ none)) _ t1
      have hF : Kd.C kF W1 (some ⟨wr.heap.size + 1 + 1, 0, none⟩) 1 [.fn false (body 1 i)] := by
        rw [hW1]; exact C_one kF U2 _ [_, _, _, _] 30 (kF_mk U2 (.fn false (body 1 i)) (Nat.le_refl 1) c2) _ t2
      have b2 : Below W1.heap.size W1 W2 := by rw [hW2]; exact (Below.refl _ _).alloc (Nat.le_refl _) _
      have hF2 := Kd.C_below hF b2
      have B2 : Below w.heap.size w W2 := by
        have := hb.size
        have g1 : Below w.heap.size w U1 := by rw [hU1]; exact hb.alloc (by omega) _
        have g2 : Below w.heap.size w U2 := by rw [hU2]; exact g1.alloc (by omega) _
        have g3 : Below w.heap.size w W1 := by rw [hW1]; exact g2.alloc (by omega) _
        rw [hW2]; exact g3.alloc (by omega) _
      have r2 : W2.heap[wr.heap.size + 1 + 1 + 1]? = some (.cells #[.slice none 0 0, .slice (some ⟨wr.heap.size + 1 + 1, 0, none⟩) 1 1] 34 (0, 0)) := by rw [hW2, ← s1]; exact heap_alloc_new W1 _
      have H4 := Aside0.mk (print_any 1 i (by omega) none 0 _ 1 W2 (C_nil k49 W2 none) hF2)
      have H5 : Aside0 (∀ w', Below W2.heap.size W2 w' → Calls Tryd.prog 5 #[.agg #[.slice none 0 0, .slice (some ⟨wr.heap.size + 1 + 1, 0, none⟩) 1 1]] w' fun e w'' => e = .returned (.tuple #[.string (outS (.fn false (body 1 i))), .int .i64 (outE (.fn false (body 1 i)))]) ∧ Below w'.heap.size w' w'') := ⟨fun w' hb => rprint_any 1 i (by omega) none 0 _ 1 w' (C_nil k49 w' none) (Kd.C_below hF2 hb)⟩
      have H7 : Aside0 (∀ w', Below W2.heap.size W2 w' → Calls Tryd.prog 7 #[.agg #[.slice none 0 0, .slice (some ⟨wr.heap.size + 1 + 1, 0, none⟩) 1 1]] w' fun e w'' => e = .returned (.bool (Fn1.fn false (body 1 i)).ok) ∧ Below w'.heap.size w' w'') := ⟨fun w' hb => right_calls _ none 0 _ 1 w' (C_nil k49 w' none) (Kd.C_below hF2 hb)⟩
      have H8 : Aside0 (∀ w', Below W2.heap.size W2 w' → Calls Tryd.prog 8 #[.agg #[.slice none 0 0, .slice (some ⟨wr.heap.size + 1 + 1, 0, none⟩) 1 1]] w' fun e w'' => e = .returned (.bool (Fn1.fn false (body 1 i)).ok) ∧ Below w'.heap.size w' w'') := ⟨fun w' hb => rright_calls _ none 0 _ 1 w' (C_nil k49 w' none) (Kd.C_below hF2 hb)⟩
      have H6 := fun w => awake_calls w
      generalize outS (.fn false (body 1 i)) = SS at *
      generalize outE (.fn false (body 1 i)) = EE at *
      generalize (Fn1.fn false (body 1 i)).ok = q at *
      have HU1 := Aside0.mk hU1; have HU2 := Aside0.mk hU2; have HW1 := Aside0.mk hW1; have HW2 := Aside0.mk hW2; have HB2 := Aside0.mk B2; have HR2 := Aside0.mk r2
      clear hU1 hU2 hW1 hW2 B2 r2 hF hF2 b2 s1 HN t1 t2 c1 c2 hKx hrow hb
      go_wp2_with (first
        | (go_at_call 4; rw [← HU1.out, ← HU2.out, ← HW1.out, ← HW2.out]; refine H4.out.mono ?_; rintro e v1 ⟨rfl, hb1⟩; have Q1 := Aside0.mk hb1; have R1 := Aside0.mk (row_keep hb1 HR2.out); obtain ⟨x0, x1⟩ := two_row R1.out; clear hb1)
        | (go_at_call 5; refine (H5.out _ Q1.out).mono ?_; rintro e v2 ⟨rfl, hb2⟩; have Q2 := Aside0.mk (Q1.out.trans (hb2.mono Q1.out.size)); have R2 := Aside0.mk (row_keep hb2 R1.out); obtain ⟨x0, x1⟩ := two_row R2.out; clear hb2))
      have hl2 : wr.heap.size + 1 + 1 + 1 < v2.heap.size := block_lt_of_cell x0
      go_region_held3 (fun w' => w'.cell? ⟨wr.heap.size + 1 + 1 + 1, 0, none⟩ = some (.slice none 0 0) ∧ w'.cell? ⟨wr.heap.size + 1 + 1 + 1, 1, none⟩ = some (.slice (some ⟨wr.heap.size + 1 + 1, 0, none⟩) 1 1)) (first | exact ⟨x0, x1⟩ | exact ⟨y0, y1⟩ | go_keep)
        (first
          | (go_at_call 6; refine (H6 _).mono ?_; rintro e v3 ⟨rfl, hb3⟩; have Q3 := Aside0.mk (Q2.out.drew.trans (hb3.mono Q2.out.drew.size)); have R3 := Aside0.mk (row_keep hb3 R2.out); obtain ⟨y0, y1⟩ := two_row R3.out; clear hb3)
          | (go_at_call 7; refine (H7.out _ Q3.out).mono ?_; rintro e v4 ⟨rfl, hb4⟩; have Q4 := Aside0.mk (Q3.out.trans (hb4.mono Q3.out.size)); have R4 := Aside0.mk (row_keep hb4 R3.out); obtain ⟨x0, x1⟩ := two_row R4.out; clear hb4)
          | (go_at_call 8; refine (H8.out _ Q4.out).mono ?_; rintro e v5 ⟨rfl, hb5⟩; have Q5 := Aside0.mk (Q4.out.trans (hb5.mono Q4.out.size)); have R5 := Aside0.mk (row_keep hb5 R4.out); obtain ⟨y0, y1⟩ := two_row R5.out; clear hb5))
      go_wp2
      go_ret
      exact ⟨rfl, HB2.out.trans (Q5.out.mono HB2.out.size)⟩
theorem deep_calls (n k : Int) (hn0 : 0 ≤ n) (hn1 : n ≤ 255) (hk0 : 0 ≤ k) (hk1 : k ≤ 255) (w : World) :
    Calls Tryd.prog 3 #[.int .u8 n, .int .u8 k] w fun e w' => e = .returned (.bool true) ∧ Below w.heap.size w w' := by
  have h : k % 4 = 0 ∨ k % 4 = 1 ∨ k % 4 = 2 ∨ k % 4 = 3 := by omega
  rcases h with h | h | h | h
  · exact deep0 n k hn0 hn1 hk0 hk1 h w
  · exact deep1 n k hn0 hn1 hk0 hk1 h w
  · exact deep2 n k hn0 hn1 hk0 hk1 h w
  · exact deep3 n k hn0 hn1 hk0 hk1 h w
#print axioms deep_calls
end Go.Proofs.YtijpghipfopplaaDoor.PDe
