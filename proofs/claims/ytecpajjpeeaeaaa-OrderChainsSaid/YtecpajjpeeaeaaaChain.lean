/- OrderChains is true of all inputs: the walk of the law by the contracts of awake and fine; its 80 lists of moves are reckoned. No condition. -/
import Derived.Test.YtecpajjpeeaeaaaPOrdx4
import Derived.Test.YtecpajjpeeaeaaaPOrdx7
import Derived.Test.YtecpajjpeeaeaaaOrdA
namespace Go.Proofs.Ytecpajjpeeaeaaa.Chain
open Go.RowKit Go.Proofs.Ytecpajjpeeaeaaa.POrd Go.Proofs.YtecpajjpeeaeaaaW.PrintWords Go.Proofs.YtecpajjpeeaeaaaW.PrintLast Go.Proofs.YtecpajjpeeaeaaaW.PrintMore

def one (back : Bool) (j : Nat) : S24 := if back then ⟨(j : Int) + 1, j⟩ else ⟨j, (j : Int) + 1⟩
def moves1 (back : Bool) (i : Nat) : List S24 := (List.range i).map (one back)
def moves2 (n : Int) (i : Nat) : List S24 := (List.range i).map fun (j : Nat) => ⟨20 + (j : Int), n⟩
theorem moves1_succ (back : Bool) (i : Nat) : moves1 back (i + 1) = moves1 back i ++ [one back i] := by simp [moves1, List.range_succ]
theorem moves2_succ (n : Int) (i : Nat) : moves2 n (i + 1) = moves2 n i ++ [⟨20 + (i : Int), n⟩] := by simp [moves2, List.range_succ]
theorem moves1_length (back : Bool) (i : Nat) : (moves1 back i).length = i := by simp [moves1]
theorem moves2_length (n : Int) (i : Nat) : (moves2 n i).length = i := by simp [moves2]
theorem awake_true : boxhedgelaw17_awake.f 200 = some true := by decide +kernel
theorem fine_true : ∀ n : Fin 8, ∀ b : Bool, ∀ m : Fin 5, boxhedgelaw17_fine.f 200 (moves1 b n.val ++ moves2 (n.val : Int) m.val) 50 = some true := by decide +kernel

def Rel1 (w : World) (a1 : Bool) (n : Nat) (v i : Value) (wx : World) : Prop := ∃ j : Nat, i = .int .i64 j ∧ j ≤ n ∧ Below w.heap.size w wx ∧ Kd.R k24 24 wx w.heap.size (fun _ => True) v (moves1 a1 j)
def Rel2 (w : World) (a1 : Bool) (n m : Nat) (v i : Value) (wx : World) : Prop := ∃ j : Nat, i = .int .i64 j ∧ j ≤ m ∧ Below w.heap.size w wx ∧ Kd.R k24 24 wx w.heap.size (fun _ => True) v (moves1 a1 n ++ moves2 n j)
def Post (w : World) (e : Ending) (w' : World) : Prop := e = .returned (.bool true) ∧ Below w.heap.size w w'

set_option maxHeartbeats 4000000 in
theorem chains_calls (a0 : Int) (a1 : Bool) (a2 : Int) (w : World) (h0 : 0 ≤ a0) (h0' : a0 ≤ 255) (h2 : 0 ≤ a2) (h2' : a2 ≤ 255) : Calls Try.prog 4 #[.int .u8 a0, .bool a1, .int .u8 a2] w (Post w) := by
  obtain ⟨n, hn⟩ : ∃ n : Nat, a0 % 8 = n := ⟨(a0 % 8).toNat, by omega⟩
  obtain ⟨m, hm⟩ : ∃ m : Nat, a2 % 5 = m := ⟨(a2 % 5).toNat, by omega⟩
  have hn8 : n < 8 := by omega
  have hm5 : m < 5 := by omega
  have Hfine := Aside0.mk (fine_true ⟨n, hn8⟩ a1 ⟨m, hm5⟩)
  have Hn := Aside0.mk hn
  have Hm := Aside0.mk hm
  clear hn hm
  go_enter Try.func4, Try.ntmps4
  go_wp2
  go_loopw [7, 8, 9] (fun v i _ wx => Rel1 w a1 n v i wx) (fun _ i _ _ => n - (intOf i).toNat)
  case atStart => exact ⟨0, rfl, Nat.zero_le _, Below.refl _ _, Kd.R_nil _ _ _ _ _⟩
  case round =>
    obtain ⟨j, rfl, hj, hB, hR⟩ := hrel
    have HB := Aside0.mk hB
    have HR := Aside0.mk hR
    clear hB hR
    by_cases hlt : j < n
    · have hlt' : (j : Int) < a0 % 8 := by rw [Hn.out]; omega
      cases a1 with
      | true =>
        go_wp2_with (at_builtin; refine Kd.R_append k24 (w0 := w) w.heap.size rfl (.tmp 27) (.tmp 29) 22 24 (.agg #[(.int .i64 0), (.int .i64 0)]) 16 rfl Try.underlying22 info24 rfl (by decide) (by omega) u7 (moves1 true j) (one true j) [.int .i64 ((j : Int) + 1), .int .i64 ((j : Int))] (fun _ => True) (fun _ => False) rfl ?aX ?aP (fun _ hk => hk.elim) (fun _ _ => trivial) ?aO ?aB ?aS ?aL ?_; (case aX => show Value.slice (some ⟨wr.heap.size + 1, 0, none⟩) 1 1 = _; simp); (case aP => exact k24_mkM _ _ _ (one true j)); (case aO => exact Kd.R_alloc HR.out _); (case aB => exact below_alloc HB.out _); (case aS => exact (below_alloc HB.out _).size); (case aL => rw [moves1_length]; omega); intro v1 w1 ho hb hg hat; rw [← moves1_succ] at ho; have HR1 := Aside0.mk ho; have HB1 := Aside0.mk hb; clear ho hb hg hat)
        go_roundw
        case rel => exact ⟨j + 1, by go_num, by omega, HB1.out, HR1.out⟩
        case measure => simp [intOf]; omega
      | false =>
        go_wp2_with (at_builtin; refine Kd.R_append k24 (w0 := w) w.heap.size rfl (.tmp 27) (.tmp 29) 22 24 (.agg #[(.int .i64 0), (.int .i64 0)]) 16 rfl Try.underlying22 info24 rfl (by decide) (by omega) u7 (moves1 false j) (one false j) [.int .i64 ((j : Int)), .int .i64 ((j : Int) + 1)] (fun _ => True) (fun _ => False) rfl ?aX ?aP (fun _ hk => hk.elim) (fun _ _ => trivial) ?aO ?aB ?aS ?aL ?_; (case aX => show Value.slice (some ⟨wr.heap.size + 1, 0, none⟩) 1 1 = _; simp); (case aP => exact k24_mkM _ _ _ (one false j)); (case aO => exact Kd.R_alloc HR.out _); (case aB => exact below_alloc HB.out _); (case aS => exact (below_alloc HB.out _).size); (case aL => rw [moves1_length]; omega); intro v1 w1 ho hb hg hat; rw [← moves1_succ] at ho; have HR1 := Aside0.mk ho; have HB1 := Aside0.mk hb; clear ho hb hg hat)
        go_roundw
        case rel => exact ⟨j + 1, by go_num, by omega, HB1.out, HR1.out⟩
        case measure => simp [intOf]; omega
    · have hjn : j = n := by omega
      subst hjn
      have hge : ¬ (j : Int) < a0 % 8 := by rw [Hn.out]; omega
      go_wp2
      go_loopw [7, 10] (fun v i wx => Rel2 w a1 j m v i wx) (fun _ i _ => m - (intOf i).toNat)
      case atStart => exact ⟨0, rfl, Nat.zero_le _, HB.out, by simpa [moves2] using HR.out⟩
      case round =>
        clear HB HR hge hlt hj
        obtain ⟨i, rfl, hi, hB, hR⟩ := hrel
        have HB := Aside0.mk hB
        have HR := Aside0.mk hR
        clear hB hR
        by_cases hlt : i < m
        · have hlt' : (i : Int) < a2 % 5 := by rw [Hm.out]; omega
          go_wp2_with (at_builtin; refine Kd.R_append k24 (w0 := w) w.heap.size rfl (.tmp 38) (.tmp 45) 22 24 (.agg #[(.int .i64 0), (.int .i64 0)]) 16 rfl Try.underlying22 info24 rfl (by decide) (by omega) u7 (moves1 a1 j ++ moves2 j i) (⟨20 + (i : Int), a0 % 8⟩ : S24) [.int .i64 (20 + (i : Int)), .int .i64 (a0 % 8)] (fun _ => True) (fun _ => False) rfl rfl ?aP (fun _ hk => hk.elim) (fun _ _ => trivial) ?aO ?aB ?aS ?aL ?_; (case aP => exact k24_mkM _ _ _ (⟨20 + (i : Int), a0 % 8⟩ : S24)); (case aO => exact HR.out); (case aB => exact HB.out); (case aS => exact HB.out.size); (case aL => rw [List.length_append, moves1_length, moves2_length]; omega); intro v1 w1 ho hb hg hat; rw [List.append_assoc, Hn.out, ← moves2_succ] at ho; have HR1 := Aside0.mk ho; have HB1 := Aside0.mk hb; clear ho hb hg hat)
          go_roundw
          case rel => exact ⟨i + 1, by go_num, by omega, HB1.out, HR1.out⟩
          case measure => simp [intOf]; omega
        · have him : i = m := by omega
          subst him
          have hge : ¬ (i : Int) < a2 % 5 := by rw [Hm.out]; omega
          obtain ⟨A, c, hA, hlc, hC⟩ := Kd.R_reads HR.out
          subst hA
          have HC := Aside0.mk hC
          have Hlc := Aside0.mk hlc
          clear hC hlc
          generalize hL : moves1 a1 j ++ moves2 (j : Int) i = L at *
          clear hL
          go_wp2_with (first | (go_at_call 5; refine (boxhedgelaw17_awake.calls 200 true _ awake_true).mono ?_; rintro e w2 ⟨rfl, hb2⟩; have HB2 := Aside0.mk (below_step HB.out hb2); have HC2 := Aside0.mk (Kd.C_below HC.out hb2); clear hb2) | (go_at_call 6; refine (boxhedgelaw17_fine.calls 200 _ _ L 50 true _ HC2.out Hlc.out Hfine.out).mono ?_; rintro e w3 ⟨rfl, hb3⟩; have HB3 := Aside0.mk (below_step HB2.out hb3); clear hb3))
          go_ret
          exact ⟨rfl, HB3.out⟩
theorem u8_range {a : Int} (h : (Lit.int .u8 a).wf = true) : 0 ≤ a ∧ a ≤ 255 := by
  have hmin : IntKind.u8.min = 0 := by decide
  have hmax : IntKind.u8.max = 255 := by decide
  simp [Lit.wf, hmin, hmax] at h
  omega
theorem walk (a0 : Int) (a1 : Bool) (a2 : Int) (w : World) (w0 : (Lit.int .u8 a0).wf = true) (w2 : (Lit.int .u8 a2).wf = true) :
    Calls Try.prog 4 #[.int .u8 a0, .bool a1, .int .u8 a2] w fun e w' => e = .returned (.bool true) ∧ Below w.heap.size w w' :=
  chains_calls a0 a1 a2 w (u8_range w0).1 (u8_range w0).2 (u8_range w2).1 (u8_range w2).2
end Go.Proofs.Ytecpajjpeeaeaaa.Chain
