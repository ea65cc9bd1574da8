-- PRINTED by printx.py (a program of this session) with the kit's print.py out of the translation. Not trusted: Lean checks it.
import Derived.Test.YtijpghipfopplaaDoorPDex0
namespace Go.Proofs.YtijpghipfopplaaDoor.PDe
open Go.RowKit Go.Proofs.YtijpghipfopplaaDoorW.PrintWords Go.Proofs.YtijpghipfopplaaDoorW.PrintLast Go.Proofs.YtijpghipfopplaaDoorW.PrintMore
attribute [local go_sem] max2_int min2_int max_two min_two max_three min_three max_four min_four   -- for this text's walks alone
set_option linter.unusedVariables false
set_option linter.unusedSimpArgs false

/-! ### boxhedgeref03_isType: function 23 -/
def boxhedgeref03_isType.f (a0 : Int) : Option (Bool) := if a0 = 1 then (some true) else (some (a0 == 2))
set_option maxHeartbeats 8000000 in
set_option maxRecDepth 100000 in
theorem boxhedgeref03_isType.calls (a0 : Int) (r : Bool) (w : World) (h : boxhedgeref03_isType.f a0 = some r) :
    Calls Tryd.prog 23 #[.int .i64 a0] w fun e w' => e = .returned (.bool r) ∧ Drawn0 w w' := by
  have H : (if a0 = 1 then (some true) else (some (a0 == 2))) = some r := h
  clear h
  by_cases c2 : a0 = 1
  · rw [if_pos c2] at H
    have c2b0 : (a0 == 1) = true := beq_iff_eq.mpr c2
    have c2b1 : (a0 != 1) = false := bne_eq_false_iff_eq.mpr c2
    clear c2
    obtain rfl := Option.some.inj H
    go_enter Tryd.func23, Tryd.ntmps23
    go_wp2
    go_ret
    exact ⟨by first | rfl | (simp; done) | (simp [*]; done), by repeat (first | exact Drawn0.refl _ | apply Drawn0.step)⟩
  · rw [if_neg c2] at H
    have c2b0 : (a0 == 1) = false := beq_eq_false_iff_ne.mpr c2
    have c2b1 : (a0 != 1) = true := bne_iff_ne.mpr c2
    obtain rfl := Option.some.inj H
    go_enter Tryd.func23, Tryd.ntmps23
    go_wp2
    go_ret
    exact ⟨by first | rfl | (simp; done) | (simp [*]; done), by repeat (first | exact Drawn0.refl _ | apply Drawn0.step)⟩

/-- THE ONE PURE STATEMENT of boxhedgeref03_isType: yours. -/
def boxhedgeref03_isType.Pure : Prop := ∀ (a0 : Int), (Lit.int .i64 a0).wf = true → boxhedgeref03_isType.f a0 = some true
theorem boxhedgeref03_isType.walk (P : boxhedgeref03_isType.Pure) (a0 : Int) (w : World) (w0 : (Lit.int .i64 a0).wf = true) :
    Calls Tryd.prog 23 #[.int .i64 a0] w fun e w' => e = .returned (.bool true) ∧ Below w.heap.size w w' := by
  have h := P a0 w0
  refine (boxhedgeref03_isType.calls a0 true w h).mono ?_
  rintro e w' ⟨rfl, hd⟩
  exact ⟨rfl, hd.below⟩

end Go.Proofs.YtijpghipfopplaaDoor.PDe
