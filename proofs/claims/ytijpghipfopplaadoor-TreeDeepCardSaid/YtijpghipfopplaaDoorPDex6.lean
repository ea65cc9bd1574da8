-- PRINTED by printx.py (a program of this session) with the kit's print.py out of the translation. Not trusted: Lean checks it.
import Derived.Test.YtijpghipfopplaaDoorPDex0
namespace Go.Proofs.YtijpghipfopplaaDoor.PDe
open Go.RowKit Go.Proofs.YtijpghipfopplaaDoorW.PrintWords Go.Proofs.YtijpghipfopplaaDoorW.PrintLast Go.Proofs.YtijpghipfopplaaDoorW.PrintMore
attribute [local go_sem] max2_int min2_int max_two min_two max_three min_three max_four min_four   -- for this text's walks alone
set_option linter.unusedVariables false
set_option linter.unusedSimpArgs false

/-! ### boxhedgeref02_Word: function 42 -/
def boxhedgeref02_Word.j0 : Nat → Bool → Option (Bool)
  | 0, _ => none
  | k + 1, x4 => if x4 = true then (some true) else (some false)
def boxhedgeref02_Word.f (k : Nat) (a0 : ByteArray) : Option (Bool) := if a0.toList = ([105, 110, 116] : List UInt8) then (boxhedgeref02_Word.j0 k (a0.toList == ([105, 110, 116] : List UInt8))) else (if a0.toList = ([98, 111, 111, 108] : List UInt8) then (boxhedgeref02_Word.j0 k (a0.toList == ([98, 111, 111, 108] : List UInt8))) else (if a0.toList = ([105, 102] : List UInt8) then (boxhedgeref02_Word.j0 k (a0.toList == ([105, 102] : List UInt8))) else (if a0.toList = ([101, 108, 115, 101] : List UInt8) then (boxhedgeref02_Word.j0 k (a0.toList == ([101, 108, 115, 101] : List UInt8))) else (if a0.toList = ([119, 104, 105, 108, 101] : List UInt8) then (boxhedgeref02_Word.j0 k (a0.toList == ([119, 104, 105, 108, 101] : List UInt8))) else (if a0.toList = ([98, 114, 101, 97, 107] : List UInt8) then (boxhedgeref02_Word.j0 k (a0.toList == ([98, 114, 101, 97, 107] : List UInt8))) else (if a0.toList = ([99, 111, 110, 116, 105, 110, 117, 101] : List UInt8) then (boxhedgeref02_Word.j0 k (a0.toList == ([99, 111, 110, 116, 105, 110, 117, 101] : List UInt8))) else (if a0.toList = ([114, 101, 116, 117, 114, 110] : List UInt8) then (boxhedgeref02_Word.j0 k (a0.toList == ([114, 101, 116, 117, 114, 110] : List UInt8))) else (if a0.toList = ([112, 114, 105, 110, 116] : List UInt8) then (boxhedgeref02_Word.j0 k (a0.toList == ([112, 114, 105, 110, 116] : List UInt8))) else (if a0.toList = ([114, 101, 97, 100] : List UInt8) then (boxhedgeref02_Word.j0 k (a0.toList == ([114, 101, 97, 100] : List UInt8))) else (if a0.toList = ([116, 114, 117, 101] : List UInt8) then (boxhedgeref02_Word.j0 k (a0.toList == ([116, 114, 117, 101] : List UInt8))) else (if a0.toList = ([102, 97, 108, 115, 101] : List UInt8) then (boxhedgeref02_Word.j0 k (a0.toList == ([102, 97, 108, 115, 101] : List UInt8))) else (if a0.toList = ([105, 56] : List UInt8) then (boxhedgeref02_Word.j0 k (a0.toList == ([105, 56] : List UInt8))) else (if a0.toList = ([105, 49, 54] : List UInt8) then (boxhedgeref02_Word.j0 k (a0.toList == ([105, 49, 54] : List UInt8))) else (if a0.toList = ([105, 51, 50] : List UInt8) then (boxhedgeref02_Word.j0 k (a0.toList == ([105, 51, 50] : List UInt8))) else (if a0.toList = ([117, 56] : List UInt8) then (boxhedgeref02_Word.j0 k (a0.toList == ([117, 56] : List UInt8))) else (if a0.toList = ([117, 49, 54] : List UInt8) then (boxhedgeref02_Word.j0 k (a0.toList == ([117, 49, 54] : List UInt8))) else (boxhedgeref02_Word.j0 k (a0.toList == ([117, 51, 50] : List UInt8)))))))))))))))))))
theorem boxhedgeref02_Word.mono_l : ∀ k, (∀ y0, LeO (boxhedgeref02_Word.j0 k y0) (boxhedgeref02_Word.j0 (k + 1) y0))
  | 0 => fun _ r h => by simp [boxhedgeref02_Word.j0] at h
  | k + 1 => by
    have ih0 := boxhedgeref02_Word.mono_l k
    · intro y0
      unfold boxhedgeref02_Word.j0
      repeat' first
      | (with_reducible exact ih0 _)
      | (with_reducible exact LeO.refl _)
      | (with_reducible exact LeO.none _)
      | (with_reducible refine LeO.ite ?_ ?_)
      | (with_reducible refine LeO.bind ?_ (fun _ => ?_))
      | exact ih0 _
      | exact LeO.none _
      | refine LeO.ite ?_ ?_
      | refine LeO.bind ?_ (fun _ => ?_)
theorem boxhedgeref02_Word.mono : ∀ a0 k, LeO (boxhedgeref02_Word.f k a0) (boxhedgeref02_Word.f (k + 1) a0) := by
  intro a0 k
  have ih0 := boxhedgeref02_Word.mono_l k
  unfold boxhedgeref02_Word.f
  repeat' first
      | (with_reducible exact ih0 _)
      | (with_reducible exact LeO.refl _)
      | (with_reducible exact LeO.none _)
      | (with_reducible refine LeO.ite ?_ ?_)
      | (with_reducible refine LeO.bind ?_ (fun _ => ?_))
      | exact ih0 _
      | exact LeO.none _
      | refine LeO.ite ?_ ?_
      | refine LeO.bind ?_ (fun _ => ?_)
set_option maxHeartbeats 8000000 in
set_option maxRecDepth 100000 in
theorem boxhedgeref02_Word.calls (k : Nat) (a0 : ByteArray) (r : Bool) (w : World) (h : boxhedgeref02_Word.f k a0 = some r) :
    Calls Tryd.prog 42 #[.string a0] w fun e w' => e = .returned (.bool r) ∧ Drawn0 w w' := by
  have H : (if a0.toList = ([105, 110, 116] : List UInt8) then (boxhedgeref02_Word.j0 k (a0.toList == ([105, 110, 116] : List UInt8))) else (if a0.toList = ([98, 111, 111, 108] : List UInt8) then (boxhedgeref02_Word.j0 k (a0.toList == ([98, 111, 111, 108] : List UInt8))) else (if a0.toList = ([105, 102] : List UInt8) then (boxhedgeref02_Word.j0 k (a0.toList == ([105, 102] : List UInt8))) else (if a0.toList = ([101, 108, 115, 101] : List UInt8) then (boxhedgeref02_Word.j0 k (a0.toList == ([101, 108, 115, 101] : List UInt8))) else (if a0.toList = ([119, 104, 105, 108, 101] : List UInt8) then (boxhedgeref02_Word.j0 k (a0.toList == ([119, 104, 105, 108, 101] : List UInt8))) else (if a0.toList = ([98, 114, 101, 97, 107] : List UInt8) then (boxhedgeref02_Word.j0 k (a0.toList == ([98, 114, 101, 97, 107] : List UInt8))) else (if a0.toList = ([99, 111, 110, 116, 105, 110, 117, 101] : List UInt8) then (boxhedgeref02_Word.j0 k (a0.toList == ([99, 111, 110, 116, 105, 110, 117, 101] : List UInt8))) else (if a0.toList = ([114, 101, 116, 117, 114, 110] : List UInt8) then (boxhedgeref02_Word.j0 k (a0.toList == ([114, 101, 116, 117, 114, 110] : List UInt8))) else (if a0.toList = ([112, 114, 105, 110, 116] : List UInt8) then (boxhedgeref02_Word.j0 k (a0.toList == ([112, 114, 105, 110, 116] : List UInt8))) else (if a0.toList = ([114, 101, 97, 100] : List UInt8) then (boxhedgeref02_Word.j0 k (a0.toList == ([114, 101, 97, 100] : List UInt8))) else (if a0.toList = ([116, 114, 117, 101] : List UInt8) then (boxhedgeref02_Word.j0 k (a0.toList == ([116, 114, 117, 101] : List UInt8))) else (if a0.toList = ([102, 97, 108, 115, 101] : List UInt8) then (boxhedgeref02_Word.j0 k (a0.toList == ([102, 97, 108, 115, 101] : List UInt8))) else (if a0.toList = ([105, 56] : List UInt8) then (boxhedgeref02_Word.j0 k (a0.toList == ([105, 56] : List UInt8))) else (if a0.toList = ([105, 49, 54] : List UInt8) then (boxhedgeref02_Word.j0 k (a0.toList == ([105, 49, 54] : List UInt8))) else (if a0.toList = ([105, 51, 50] : List UInt8) then (boxhedgeref02_Word.j0 k (a0.toList == ([105, 51, 50] : List UInt8))) else (if a0.toList = ([117, 56] : List UInt8) then (boxhedgeref02_Word.j0 k (a0.toList == ([117, 56] : List UInt8))) else (if a0.toList = ([117, 49, 54] : List UInt8) then (boxhedgeref02_Word.j0 k (a0.toList == ([117, 49, 54] : List UInt8))) else (boxhedgeref02_Word.j0 k (a0.toList == ([117, 51, 50] : List UInt8)))))))))))))))))))) = some r := h
  clear h
  have HC2 := Aside0.mk H
  clear H
  go_enter Tryd.func42, Tryd.ntmps42
  go_upto_if 4 with (fail)
  go_cut [4] (fun v4 wc => ∃ (kq : Nat) (x4_1 : Bool), v4 = .bool x4_1 ∧ Aside0 (boxhedgeref02_Word.j0 kq x4_1 = some r) ∧ Aside0 (kq ≤ k) ∧ Drawn0 w wc)
  case first =>
    have H := HC2.out
    clear HC2
    by_cases c3 : a0.toList = ([105, 110, 116] : List UInt8)
    · rw [if_pos c3] at H
      have c3b0 : (a0.toList == ([105, 110, 116] : List UInt8)) = true := beq_iff_eq.mpr c3
      have c3b1 : (a0.toList != ([105, 110, 116] : List UInt8)) = false := bne_eq_false_iff_eq.mpr c3
      clear c3
      (first | rw [c3b0] | (simp only [i64_w, i32_w]; rw [c3b0]) | skip)
      have H' := Aside0.mk H
      clear H
      go_wp2
      go_meet
      case rel => exact ⟨_, ((a0.toList == ([105, 110, 116] : List UInt8))), (by first | rfl | (simp; done) | (simp [*]; done)), H', ⟨by first | omega | exact Nat.le_refl _⟩, by repeat (first | exact Drawn0.refl _ | apply Drawn0.step)⟩
    · rw [if_neg c3] at H
      have c3b0 : (a0.toList == ([105, 110, 116] : List UInt8)) = false := beq_eq_false_iff_ne.mpr c3
      have c3b1 : (a0.toList != ([105, 110, 116] : List UInt8)) = true := bne_iff_ne.mpr c3
      (first | rw [c3b0] | (simp only [i64_w, i32_w]; rw [c3b0]) | skip)
      by_cases c4 : a0.toList = ([98, 111, 111, 108] : List UInt8)
      · rw [if_pos c4] at H
        have c4b0 : (a0.toList == ([98, 111, 111, 108] : List UInt8)) = true := beq_iff_eq.mpr c4
        have c4b1 : (a0.toList != ([98, 111, 111, 108] : List UInt8)) = false := bne_eq_false_iff_eq.mpr c4
        clear c4
        have H' := Aside0.mk H
        clear H
        go_wp2
        go_meet
        case rel => exact ⟨_, ((a0.toList == ([98, 111, 111, 108] : List UInt8))), (by first | rfl | (simp; done) | (simp [*]; done)), H', ⟨by first | omega | exact Nat.le_refl _⟩, by repeat (first | exact Drawn0.refl _ | apply Drawn0.step)⟩
      · rw [if_neg c4] at H
        have c4b0 : (a0.toList == ([98, 111, 111, 108] : List UInt8)) = false := beq_eq_false_iff_ne.mpr c4
        have c4b1 : (a0.toList != ([98, 111, 111, 108] : List UInt8)) = true := bne_iff_ne.mpr c4
        by_cases c5 : a0.toList = ([105, 102] : List UInt8)
        · rw [if_pos c5] at H
          have c5b0 : (a0.toList == ([105, 102] : List UInt8)) = true := beq_iff_eq.mpr c5
          have c5b1 : (a0.toList != ([105, 102] : List UInt8)) = false := bne_eq_false_iff_eq.mpr c5
          clear c5
          have H' := Aside0.mk H
          clear H
          go_wp2
          go_meet
          case rel => exact ⟨_, ((a0.toList == ([105, 102] : List UInt8))), (by first | rfl | (simp; done) | (simp [*]; done)), H', ⟨by first | omega | exact Nat.le_refl _⟩, by repeat (first | exact Drawn0.refl _ | apply Drawn0.step)⟩
        · rw [if_neg c5] at H
          have c5b0 : (a0.toList == ([105, 102] : List UInt8)) = false := beq_eq_false_iff_ne.mpr c5
          have c5b1 : (a0.toList != ([105, 102] : List UInt8)) = true := bne_iff_ne.mpr c5
          by_cases c6 : a0.toList = ([101, 108, 115, 101] : List UInt8)
          · rw [if_pos c6] at H
            have c6b0 : (a0.toList == ([101, 108, 115, 101] : List UInt8)) = true := beq_iff_eq.mpr c6
            have c6b1 : (a0.toList != ([101, 108, 115, 101] : List UInt8)) = false := bne_eq_false_iff_eq.mpr c6
            clear c6
            have H' := Aside0.mk H
            clear H
            go_wp2
            go_meet
            case rel => exact ⟨_, ((a0.toList == ([101, 108, 115, 101] : List UInt8))), (by first | rfl | (simp; done) | (simp [*]; done)), H', ⟨by first | omega | exact Nat.le_refl _⟩, by repeat (first | exact Drawn0.refl _ | apply Drawn0.step)⟩
          · rw [if_neg c6] at H
            have c6b0 : (a0.toList == ([101, 108, 115, 101] : List UInt8)) = false := beq_eq_false_iff_ne.mpr c6
            have c6b1 : (a0.toList != ([101, 108, 115, 101] : List UInt8)) = true := bne_iff_ne.mpr c6
            by_cases c7 : a0.toList = ([119, 104, 105, 108, 101] : List UInt8)
            · rw [if_pos c7] at H
              have c7b0 : (a0.toList == ([119, 104, 105, 108, 101] : List UInt8)) = true := beq_iff_eq.mpr c7
              have c7b1 : (a0.toList != ([119, 104, 105, 108, 101] : List UInt8)) = false := bne_eq_false_iff_eq.mpr c7
              clear c7
              have H' := Aside0.mk H
              clear H
              go_wp2
              go_meet
              case rel => exact ⟨_, ((a0.toList == ([119, 104, 105, 108, 101] : List UInt8))), (by first | rfl | (simp; done) | (simp [*]; done)), H', ⟨by first | omega | exact Nat.le_refl _⟩, by repeat (first | exact Drawn0.refl _ | apply Drawn0.step)⟩
            · rw [if_neg c7] at H
              have c7b0 : (a0.toList == ([119, 104, 105, 108, 101] : List UInt8)) = false := beq_eq_false_iff_ne.mpr c7
              have c7b1 : (a0.toList != ([119, 104, 105, 108, 101] : List UInt8)) = true := bne_iff_ne.mpr c7
              by_cases c8 : a0.toList = ([98, 114, 101, 97, 107] : List UInt8)
              · rw [if_pos c8] at H
                have c8b0 : (a0.toList == ([98, 114, 101, 97, 107] : List UInt8)) = true := beq_iff_eq.mpr c8
                have c8b1 : (a0.toList != ([98, 114, 101, 97, 107] : List UInt8)) = false := bne_eq_false_iff_eq.mpr c8
                clear c8
                have H' := Aside0.mk H
                clear H
                go_wp2
                go_meet
                case rel => exact ⟨_, ((a0.toList == ([98, 114, 101, 97, 107] : List UInt8))), (by first | rfl | (simp; done) | (simp [*]; done)), H', ⟨by first | omega | exact Nat.le_refl _⟩, by repeat (first | exact Drawn0.refl _ | apply Drawn0.step)⟩
              · rw [if_neg c8] at H
                have c8b0 : (a0.toList == ([98, 114, 101, 97, 107] : List UInt8)) = false := beq_eq_false_iff_ne.mpr c8
                have c8b1 : (a0.toList != ([98, 114, 101, 97, 107] : List UInt8)) = true := bne_iff_ne.mpr c8
                by_cases c9 : a0.toList = ([99, 111, 110, 116, 105, 110, 117, 101] : List UInt8)
                · rw [if_pos c9] at H
                  have c9b0 : (a0.toList == ([99, 111, 110, 116, 105, 110, 117, 101] : List UInt8)) = true := beq_iff_eq.mpr c9
                  have c9b1 : (a0.toList != ([99, 111, 110, 116, 105, 110, 117, 101] : List UInt8)) = false := bne_eq_false_iff_eq.mpr c9
                  clear c9
                  have H' := Aside0.mk H
                  clear H
                  go_wp2
                  go_meet
                  case rel => exact ⟨_, ((a0.toList == ([99, 111, 110, 116, 105, 110, 117, 101] : List UInt8))), (by first | rfl | (simp; done) | (simp [*]; done)), H', ⟨by first | omega | exact Nat.le_refl _⟩, by repeat (first | exact Drawn0.refl _ | apply Drawn0.step)⟩
                · rw [if_neg c9] at H
                  have c9b0 : (a0.toList == ([99, 111, 110, 116, 105, 110, 117, 101] : List UInt8)) = false := beq_eq_false_iff_ne.mpr c9
                  have c9b1 : (a0.toList != ([99, 111, 110, 116, 105, 110, 117, 101] : List UInt8)) = true := bne_iff_ne.mpr c9
                  by_cases c10 : a0.toList = ([114, 101, 116, 117, 114, 110] : List UInt8)
                  · rw [if_pos c10] at H
                    have c10b0 : (a0.toList == ([114, 101, 116, 117, 114, 110] : List UInt8)) = true := beq_iff_eq.mpr c10
                    have c10b1 : (a0.toList != ([114, 101, 116, 117, 114, 110] : List UInt8)) = false := bne_eq_false_iff_eq.mpr c10
                    clear c10
                    have H' := Aside0.mk H
                    clear H
                    go_wp2
                    go_meet
                    case rel => exact ⟨_, ((a0.toList == ([114, 101, 116, 117, 114, 110] : List UInt8))), (by first | rfl | (simp; done) | (simp [*]; done)), H', ⟨by first | omega | exact Nat.le_refl _⟩, by repeat (first | exact Drawn0.refl _ | apply Drawn0.step)⟩
                  · rw [if_neg c10] at H
                    have c10b0 : (a0.toList == ([114, 101, 116, 117, 114, 110] : List UInt8)) = false := beq_eq_false_iff_ne.mpr c10
                    have c10b1 : (a0.toList != ([114, 101, 116, 117, 114, 110] : List UInt8)) = true := bne_iff_ne.mpr c10
                    by_cases c11 : a0.toList = ([112, 114, 105, 110, 116] : List UInt8)
                    · rw [if_pos c11] at H
                      have c11b0 : (a0.toList == ([112, 114, 105, 110, 116] : List UInt8)) = true := beq_iff_eq.mpr c11
                      have c11b1 : (a0.toList != ([112, 114, 105, 110, 116] : List UInt8)) = false := bne_eq_false_iff_eq.mpr c11
                      clear c11
                      have H' := Aside0.mk H
                      clear H
                      go_wp2
                      go_meet
                      case rel => exact ⟨_, ((a0.toList == ([112, 114, 105, 110, 116] : List UInt8))), (by first | rfl | (simp; done) | (simp [*]; done)), H', ⟨by first | omega | exact Nat.le_refl _⟩, by repeat (first | exact Drawn0.refl _ | apply Drawn0.step)⟩
                    · rw [if_neg c11] at H
                      have c11b0 : (a0.toList == ([112, 114, 105, 110, 116] : List UInt8)) = false := beq_eq_false_iff_ne.mpr c11
                      have c11b1 : (a0.toList != ([112, 114, 105, 110, 116] : List UInt8)) = true := bne_iff_ne.mpr c11
                      by_cases c12 : a0.toList = ([114, 101, 97, 100] : List UInt8)
                      · rw [if_pos c12] at H
                        have c12b0 : (a0.toList == ([114, 101, 97, 100] : List UInt8)) = true := beq_iff_eq.mpr c12
                        have c12b1 : (a0.toList != ([114, 101, 97, 100] : List UInt8)) = false := bne_eq_false_iff_eq.mpr c12
                        clear c12
                        have H' := Aside0.mk H
                        clear H
                        go_wp2
                        go_meet
                        case rel => exact ⟨_, ((a0.toList == ([114, 101, 97, 100] : List UInt8))), (by first | rfl | (simp; done) | (simp [*]; done)), H', ⟨by first | omega | exact Nat.le_refl _⟩, by repeat (first | exact Drawn0.refl _ | apply Drawn0.step)⟩
                      · rw [if_neg c12] at H
                        have c12b0 : (a0.toList == ([114, 101, 97, 100] : List UInt8)) = false := beq_eq_false_iff_ne.mpr c12
                        have c12b1 : (a0.toList != ([114, 101, 97, 100] : List UInt8)) = true := bne_iff_ne.mpr c12
                        by_cases c13 : a0.toList = ([116, 114, 117, 101] : List UInt8)
                        · rw [if_pos c13] at H
                          have c13b0 : (a0.toList == ([116, 114, 117, 101] : List UInt8)) = true := beq_iff_eq.mpr c13
                          have c13b1 : (a0.toList != ([116, 114, 117, 101] : List UInt8)) = false := bne_eq_false_iff_eq.mpr c13
                          clear c13
                          have H' := Aside0.mk H
                          clear H
                          go_wp2
                          go_meet
                          case rel => exact ⟨_, ((a0.toList == ([116, 114, 117, 101] : List UInt8))), (by first | rfl | (simp; done) | (simp [*]; done)), H', ⟨by first | omega | exact Nat.le_refl _⟩, by repeat (first | exact Drawn0.refl _ | apply Drawn0.step)⟩
                        · rw [if_neg c13] at H
                          have c13b0 : (a0.toList == ([116, 114, 117, 101] : List UInt8)) = false := beq_eq_false_iff_ne.mpr c13
                          have c13b1 : (a0.toList != ([116, 114, 117, 101] : List UInt8)) = true := bne_iff_ne.mpr c13
                          by_cases c14 : a0.toList = ([102, 97, 108, 115, 101] : List UInt8)
                          · rw [if_pos c14] at H
                            have c14b0 : (a0.toList == ([102, 97, 108, 115, 101] : List UInt8)) = true := beq_iff_eq.mpr c14
                            have c14b1 : (a0.toList != ([102, 97, 108, 115, 101] : List UInt8)) = false := bne_eq_false_iff_eq.mpr c14
                            clear c14
                            have H' := Aside0.mk H
                            clear H
                            go_wp2
                            go_meet
                            case rel => exact ⟨_, ((a0.toList == ([102, 97, 108, 115, 101] : List UInt8))), (by first | rfl | (simp; done) | (simp [*]; done)), H', ⟨by first | omega | exact Nat.le_refl _⟩, by repeat (first | exact Drawn0.refl _ | apply Drawn0.step)⟩
                          · rw [if_neg c14] at H
                            have c14b0 : (a0.toList == ([102, 97, 108, 115, 101] : List UInt8)) = false := beq_eq_false_iff_ne.mpr c14
                            have c14b1 : (a0.toList != ([102, 97, 108, 115, 101] : List UInt8)) = true := bne_iff_ne.mpr c14
                            by_cases c15 : a0.toList = ([105, 56] : List UInt8)
                            · rw [if_pos c15] at H
                              have c15b0 : (a0.toList == ([105, 56] : List UInt8)) = true := beq_iff_eq.mpr c15
                              have c15b1 : (a0.toList != ([105, 56] : List UInt8)) = false := bne_eq_false_iff_eq.mpr c15
                              clear c15
                              have H' := Aside0.mk H
                              clear H
                              go_wp2
                              go_meet
                              case rel => exact ⟨_, ((a0.toList == ([105, 56] : List UInt8))), (by first | rfl | (simp; done) | (simp [*]; done)), H', ⟨by first | omega | exact Nat.le_refl _⟩, by repeat (first | exact Drawn0.refl _ | apply Drawn0.step)⟩
                            · rw [if_neg c15] at H
                              have c15b0 : (a0.toList == ([105, 56] : List UInt8)) = false := beq_eq_false_iff_ne.mpr c15
                              have c15b1 : (a0.toList != ([105, 56] : List UInt8)) = true := bne_iff_ne.mpr c15
                              by_cases c16 : a0.toList = ([105, 49, 54] : List UInt8)
                              · rw [if_pos c16] at H
                                have c16b0 : (a0.toList == ([105, 49, 54] : List UInt8)) = true := beq_iff_eq.mpr c16
                                have c16b1 : (a0.toList != ([105, 49, 54] : List UInt8)) = false := bne_eq_false_iff_eq.mpr c16
                                clear c16
                                have H' := Aside0.mk H
                                clear H
                                go_wp2
                                go_meet
                                case rel => exact ⟨_, ((a0.toList == ([105, 49, 54] : List UInt8))), (by first | rfl | (simp; done) | (simp [*]; done)), H', ⟨by first | omega | exact Nat.le_refl _⟩, by repeat (first | exact Drawn0.refl _ | apply Drawn0.step)⟩
                              · rw [if_neg c16] at H
                                have c16b0 : (a0.toList == ([105, 49, 54] : List UInt8)) = false := beq_eq_false_iff_ne.mpr c16
                                have c16b1 : (a0.toList != ([105, 49, 54] : List UInt8)) = true := bne_iff_ne.mpr c16
                                by_cases c17 : a0.toList = ([105, 51, 50] : List UInt8)
                                · rw [if_pos c17] at H
                                  have c17b0 : (a0.toList == ([105, 51, 50] : List UInt8)) = true := beq_iff_eq.mpr c17
                                  have c17b1 : (a0.toList != ([105, 51, 50] : List UInt8)) = false := bne_eq_false_iff_eq.mpr c17
                                  clear c17
                                  have H' := Aside0.mk H
                                  clear H
                                  go_wp2
                                  go_meet
                                  case rel => exact ⟨_, ((a0.toList == ([105, 51, 50] : List UInt8))), (by first | rfl | (simp; done) | (simp [*]; done)), H', ⟨by first | omega | exact Nat.le_refl _⟩, by repeat (first | exact Drawn0.refl _ | apply Drawn0.step)⟩
                                · rw [if_neg c17] at H
                                  have c17b0 : (a0.toList == ([105, 51, 50] : List UInt8)) = false := beq_eq_false_iff_ne.mpr c17
                                  have c17b1 : (a0.toList != ([105, 51, 50] : List UInt8)) = true := bne_iff_ne.mpr c17
                                  by_cases c18 : a0.toList = ([117, 56] : List UInt8)
                                  · rw [if_pos c18] at H
                                    have c18b0 : (a0.toList == ([117, 56] : List UInt8)) = true := beq_iff_eq.mpr c18
                                    have c18b1 : (a0.toList != ([117, 56] : List UInt8)) = false := bne_eq_false_iff_eq.mpr c18
                                    clear c18
                                    have H' := Aside0.mk H
                                    clear H
                                    go_wp2
                                    go_meet
                                    case rel => exact ⟨_, ((a0.toList == ([117, 56] : List UInt8))), (by first | rfl | (simp; done) | (simp [*]; done)), H', ⟨by first | omega | exact Nat.le_refl _⟩, by repeat (first | exact Drawn0.refl _ | apply Drawn0.step)⟩
                                  · rw [if_neg c18] at H
                                    have c18b0 : (a0.toList == ([117, 56] : List UInt8)) = false := beq_eq_false_iff_ne.mpr c18
                                    have c18b1 : (a0.toList != ([117, 56] : List UInt8)) = true := bne_iff_ne.mpr c18
                                    by_cases c19 : a0.toList = ([117, 49, 54] : List UInt8)
                                    · rw [if_pos c19] at H
                                      have c19b0 : (a0.toList == ([117, 49, 54] : List UInt8)) = true := beq_iff_eq.mpr c19
                                      have c19b1 : (a0.toList != ([117, 49, 54] : List UInt8)) = false := bne_eq_false_iff_eq.mpr c19
                                      clear c19
                                      have H' := Aside0.mk H
                                      clear H
                                      go_wp2
                                      go_meet
                                      case rel => exact ⟨_, ((a0.toList == ([117, 49, 54] : List UInt8))), (by first | rfl | (simp; done) | (simp [*]; done)), H', ⟨by first | omega | exact Nat.le_refl _⟩, by repeat (first | exact Drawn0.refl _ | apply Drawn0.step)⟩
                                    · rw [if_neg c19] at H
                                      have c19b0 : (a0.toList == ([117, 49, 54] : List UInt8)) = false := beq_eq_false_iff_ne.mpr c19
                                      have c19b1 : (a0.toList != ([117, 49, 54] : List UInt8)) = true := bne_iff_ne.mpr c19
                                      have H' := Aside0.mk H
                                      clear H
                                      go_wp2
                                      go_meet
                                      case rel => exact ⟨_, ((a0.toList == ([117, 51, 50] : List UInt8))), (by first | rfl | (simp; done) | (simp [*]; done)), H', ⟨by first | omega | exact Nat.le_refl _⟩, by repeat (first | exact Drawn0.refl _ | apply Drawn0.step)⟩
  case rest =>
    clear HC2
    try clear c1
    try clear p2
    try clear c3
    try clear c3b0
    try clear c3b1
    try clear c4
    try clear c4b0
    try clear c4b1
    try clear c5
    try clear c5b0
    try clear c5b1
    try clear c6
    try clear c6b0
    try clear c6b1
    try clear c7
    try clear c7b0
    try clear c7b1
    try clear c8
    try clear c8b0
    try clear c8b1
    try clear c9
    try clear c9b0
    try clear c9b1
    try clear c10
    try clear c10b0
    try clear c10b1
    try clear c11
    try clear c11b0
    try clear c11b1
    try clear c12
    try clear c12b0
    try clear c12b1
    try clear c13
    try clear c13b0
    try clear c13b1
    try clear c14
    try clear c14b0
    try clear c14b1
    try clear c15
    try clear c15b0
    try clear c15b1
    try clear c16
    try clear c16b0
    try clear c16b1
    try clear c17
    try clear c17b0
    try clear c17b1
    try clear c18
    try clear c18b0
    try clear c18b1
    try clear c19
    try clear c19b0
    try clear c19b1
    obtain ⟨kq, x4_1, rfl, HA, HJ1, ⟨mc1, rfl⟩⟩ := hcut
    cases kq with
    | zero => exact absurd HA.out (by simp [boxhedgeref02_Word.j0])
    | succ kj1 =>
      have H := HA.out
      clear HA
      simp only [boxhedgeref02_Word.j0] at H
      by_cases c20 : x4_1 = true
      · subst c20
        have H1 : (some true) = some r := by rw [if_pos rfl] at H; exact H
        clear H
        have H := H1
        clear H1
        obtain rfl := Option.some.inj H
        go_wp2
        go_ret
        exact ⟨by first | rfl | (simp; done) | (simp [*]; done), by repeat (first | exact Drawn0.refl _ | apply Drawn0.step)⟩
      · replace c20 := Bool.eq_false_iff.mpr c20
        subst c20
        have H1 : (some false) = some r := by rw [if_neg (show ¬ (false = true) by decide)] at H; exact H
        clear H
        have H := H1
        clear H1
        obtain rfl := Option.some.inj H
        go_wp2
        go_ret
        exact ⟨by first | rfl | (simp; done) | (simp [*]; done), by repeat (first | exact Drawn0.refl _ | apply Drawn0.step)⟩

end Go.Proofs.YtijpghipfopplaaDoor.PDe
