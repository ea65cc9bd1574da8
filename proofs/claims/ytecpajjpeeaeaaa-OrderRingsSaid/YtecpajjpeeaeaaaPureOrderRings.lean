/- OrderRings is true of all inputs: its moves hang on the number of places and on the step's rest alone, and those 55 cases are reckoned. No condition. -/
import Derived.Test.YtecpajjpeeaeaaaPOrdx8
namespace Go.Proofs.Ytecpajjpeeaeaaa.Pure
open Go.RowKit Go.Proofs.Ytecpajjpeeaeaaa.POrd Go.Proofs.YtecpajjpeeaeaaaW.PrintWords Go.Proofs.YtecpajjpeeaeaaaW.PrintLast

theorem u8_range {a : Int} (h : (Lit.int .u8 a).wf = true) : 0 ≤ a ∧ a ≤ 255 := by
  have hmin : IntKind.u8.min = 0 := by decide
  have hmax : IntKind.u8.max = 255 := by decide
  simp [Lit.wf, hmin, hmax] at h
  omega
theorem w64 {x : Int} (h0 : -1000 ≤ x) (h1 : x ≤ 1000) : wrap64 x = x := by unfold wrap64; omega
theorem rest_alone (K : Int) (h1 : 1 ≤ K) (h2 : K ≤ 10) (s : Int) (s0 : 0 ≤ s) (s1 : s ≤ 255) : ∀ (k : Nat) (l : List S24) (i : Int), 0 ≤ i → i ≤ 10 → boxhedgelaw17_OrderRings.l0 k s K l i = boxhedgelaw17_OrderRings.l0 k (s % K) K l i := by
  have hm := Int.emod_nonneg s (b := K) (by omega)
  have hm2 := Int.emod_lt_of_pos s (b := K) (by omega)
  intro k
  induction k with
  | zero => intros; rfl
  | succ k ih =>
    intro l i hi hi2
    simp only [boxhedgelaw17_OrderRings.l0]
    by_cases hlt : i < K
    · rw [if_pos hlt, if_pos hlt, w64 (x := s) (by omega) (by omega), w64 (x := s % K) (by omega) (by omega), w64 (x := i + s) (by omega) (by omega), w64 (x := i + s % K) (by omega) (by omega), w64 (x := i + 1) (by omega) (by omega)]
      rw [Int.tmod_eq_emod_of_nonneg (by omega), Int.tmod_eq_emod_of_nonneg (by omega), Int.add_emod_emod, ih _ (i + 1) (by omega) (by omega)]
    · rw [if_neg hlt, if_neg hlt]
theorem rings_all : ∀ K : Fin 10, ∀ s : Fin 10, s.val < K.val + 1 → boxhedgelaw17_OrderRings.l0 200 (s.val : Int) ((K.val + 1 : Nat) : Int) [] 0 = some true := by decide +kernel
theorem OrderRings : boxhedgelaw17_OrderRings.Pure := by
  intro a0 a1 h0 h1
  have b0 := u8_range h0
  have b1 := u8_range h1
  refine ⟨200, ?_⟩
  unfold boxhedgelaw17_OrderRings.f
  rw [w64 (x := a0) (by omega) (by omega), Int.tmod_eq_emod_of_nonneg (by omega), w64 (by omega) (by omega), rest_alone _ (by omega) (by omega) a1 b1.1 b1.2 200 [] 0 (by omega) (by omega)]
  have hm := Int.emod_nonneg a1 (b := 1 + a0 % 10) (by omega)
  have hm2 := Int.emod_lt_of_pos a1 (b := 1 + a0 % 10) (by omega)
  have h := rings_all ⟨(a0 % 10).toNat, by omega⟩ ⟨(a1 % (1 + a0 % 10)).toNat, by omega⟩ (by simp only; omega)
  simp only at h
  rw [show (((a1 % (1 + a0 % 10)).toNat : Nat) : Int) = a1 % (1 + a0 % 10) from by omega, show (((a0 % 10).toNat + 1 : Nat) : Int) = 1 + a0 % 10 from by omega] at h
  exact h
end Go.Proofs.Ytecpajjpeeaeaaa.Pure
