/- The printer's block, and strings.Builder's writing into it. strings.Builder's String over the printer's block. strconv.Itoa at the numbers that occur. strings.Repeat of a tab. The texts of the expressions, statements and functions that occur: plain Lean. No walk. (*printer).put over parts whose own printing is given. (*printer).inner, over an expression whose own printing is given. -/
import Derived.Test.YtijpghipfopplaaDoorMStB
import Derived.Lib.Builder
import Derived.Lib.AppendStr
import Derived.Lib.OthersKept
import Derived.Shelf.Strings.BuilderK
import Derived.Test.YtijpghipfopplaaDoorMShelf
import Derived.StillTailTactics
import Derived.Deep.RegionHeld3
import Derived.BigQuiet
set_option linter.unusedVariables false
set_option linter.unusedSimpArgs false
namespace Go.Proofs.YtijpghipfopplaaDoor.PDe
open Go.RowKit Go.Proofs.YtijpghipfopplaaDoorW.PrintWords

/-- The printer, in block g: its bytes so far, its depth. -/
def Pr (g : Nat) (acc : List Value) (tabs : Int) (w : World) : Prop :=
  ∃ p v, (p = .pointer none ∨ p = .pointer (some ⟨g, 0, none⟩)) ∧ w.heap[g]? = some (.cells #[p, v, .int .i64 tabs] 47 (0, 0)) ∧ w.ownsRow g 5 1 v acc.length acc ∧ v.ownBlock ≠ some g
/-- The same, once written. -/
def PrU (g : Nat) (acc : List Value) (tabs : Int) (w : World) : Prop :=
  ∃ v, w.heap[g]? = some (.cells #[.pointer (some ⟨g, 0, none⟩), v, .int .i64 tabs] 47 (0, 0)) ∧ w.ownsRow g 5 1 v acc.length acc ∧ v.ownBlock ≠ some g
theorem PrU.pr {g : Nat} {acc : List Value} {tabs : Int} {w : World} (h : PrU g acc tabs w) : Pr g acc tabs w := by
  obtain ⟨v, h1, h2, h3⟩ := h
  exact ⟨_, v, .inr rfl, h1, h2, h3⟩
set_option maxHeartbeats 2000000 in
set_option maxRecDepth 100000 in
theorem check_fresh (g : Nat) (v : Value) (tabs : Int) (w : World) (hg : w.heap[g]? = some (.cells #[.pointer none, v, .int .i64 tabs] 47 (0, 0))) :
    Calls Tryd.prog 50 #[.pointer (some ⟨g, 0, none⟩)] w fun e w' => e = .returned (.tuple #[]) ∧ w' = w.setCell ⟨g, 0, none⟩ (.pointer (some ⟨g, 0, none⟩)) := by
  have h0 : w.cell? ⟨g, 0, none⟩ = some (.pointer none) := cell_of_row _ _ 0 _ _ _ hg
  have hfz : w.frozen? ⟨g, 0, none⟩ = false := frozen_of_row _ _ 0 _ _ hg
  have hsh : w.shape? g = some (47, 3) := by simp [World.shape?, hg]
  obtain ⟨j, hj, hjs⟩ : ∃ j, Tryd.prog.info? 45 = some j ∧ j.size = 2 := ⟨_, rfl, rfl⟩
  clear hg
  go_enter Tryd.func50, Tryd.ntmps50
  go_wp2
  rw [Lib.run_to_unsafe w ⟨g, 0, none⟩ Tryd.underlying42 Tryd.underlying108 hj (by rw [hjs]; decide) hsh (show 0 < 3 by decide)]
  simp only [Result.andThen]
  rw [Oper.upon_value]
  go_wp2
  rw [run_callFunc_extern Tryd.func68 (by kernel_rfl) (by kernel_rfl) (by kernel_rfl) (e := Extern.AbiNoEscape.same) (by kernel_rfl)]
  rw [Lib.run_noEscape]
  simp only [Result.andThen]
  rw [Oper.upon_value]
  go_wp2
  rw [Lib.run_from_unsafe w ⟨g, 0, none⟩ Tryd.underlying108 Tryd.underlying42 hj hsh (by kernel_rfl)]
  simp only [Result.andThen]
  rw [Oper.upon_value]
  go_wp2
  go_end0
  exact ⟨rfl, rfl⟩
set_option maxHeartbeats 2000000 in
set_option maxRecDepth 100000 in
theorem check_used (g : Nat) (v : Value) (tabs : Int) (w : World) (hg : w.heap[g]? = some (.cells #[.pointer (some ⟨g, 0, none⟩), v, .int .i64 tabs] 47 (0, 0))) :
    Calls Tryd.prog 50 #[.pointer (some ⟨g, 0, none⟩)] w fun e w' => e = .returned (.tuple #[]) ∧ w' = w := by
  have h0 : w.cell? ⟨g, 0, none⟩ = some (.pointer (some ⟨g, 0, none⟩)) := cell_of_row _ _ 0 _ _ _ hg
  obtain ⟨j, hj, hjs⟩ : ∃ j, Tryd.prog.info? 45 = some j ∧ j.size = 2 := ⟨_, rfl, rfl⟩
  clear hg
  go_enter Tryd.func50, Tryd.ntmps50
  go_wp2
  rw [Lib.run_neq_ptr_same w _ Tryd.underlying42 hj]
  go_wp2
  go_end0
  exact ⟨rfl, rfl⟩
theorem set0 {g : Nat} {p p' v : Value} {tabs : Int} {w : World} (hg : w.heap[g]? = some (.cells #[p, v, .int .i64 tabs] 47 (0, 0))) : (w.setCell ⟨g, 0, none⟩ p').heap[g]? = some (.cells #[p', v, .int .i64 tabs] 47 (0, 0)) := by
  rw [heap_setCell_same w g 0 _ 47 p' hg]; rfl
theorem set1 {g : Nat} {p v v' : Value} {tabs : Int} {w : World} (hg : w.heap[g]? = some (.cells #[p, v, .int .i64 tabs] 47 (0, 0))) : (w.setCell ⟨g, 1, none⟩ v').heap[g]? = some (.cells #[p, v', .int .i64 tabs] 47 (0, 0)) := by
  rw [heap_setCell_same w g 1 _ 47 v' hg]; rfl
theorem set2 {g : Nat} {p v : Value} {tabs tabs' : Int} {w : World} (hg : w.heap[g]? = some (.cells #[p, v, .int .i64 tabs] 47 (0, 0))) : (w.setCell ⟨g, 2, none⟩ (.int .i64 tabs')).heap[g]? = some (.cells #[p, v, .int .i64 tabs'] 47 (0, 0)) := by
  rw [heap_setCell_same w g 2 _ 47 _ hg]; rfl
theorem own_set {g j : Nat} {v : Value} {acc : List Value} {u : Value} {w : World} (h : w.ownsRow g 5 1 v acc.length acc) (hne : v.ownBlock ≠ some g) : (w.setCell ⟨g, j, none⟩ u).ownsRow g 5 1 v acc.length acc :=
  own_move h (fun k hk => heap_setCell_other w ⟨g, j, none⟩ k u (fun e => hne (by rw [hk]; exact congrArg some e)))
theorem check_calls (g : Nat) (acc : List Value) (tabs : Int) (w : World) (h : Pr g acc tabs w) :
    Calls Tryd.prog 50 #[.pointer (some ⟨g, 0, none⟩)] w fun e w' => e = .returned (.tuple #[]) ∧ PrU g acc tabs w' ∧ Below g w w' ∧ Lib.OthersKept 5 (some g) w w' := by
  obtain ⟨p, v, hp, hg, ho, hne⟩ := h
  rcases hp with rfl | rfl
  · refine (check_fresh g v tabs w hg).mono ?_
    rintro e w' ⟨rfl, rfl⟩
    exact ⟨rfl, ⟨v, set0 hg, own_set ho hne, hne⟩, (Below.refl g w).setCell (p := ⟨g, 0, none⟩) (Nat.le_refl _) _, (Lib.OthersKept.refl _ _ w).setCell ⟨g, 0, none⟩ rfl _⟩
  · refine (check_used g v tabs w hg).mono ?_
    rintro e w' ⟨rfl, rfl⟩
    exact ⟨rfl, ⟨v, hg, ho, hne⟩, Below.refl g _, Lib.OthersKept.refl _ _ _⟩
set_option maxHeartbeats 2000000 in
set_option maxRecDepth 100000 in
theorem write_calls (g : Nat) (acc : List Value) (tabs : Int) (s : ByteArray) (w : World) (h : Pr g acc tabs w) (hlen : acc.length + s.size ≤ 140737488355328) :
    Calls Tryd.prog 26 #[.pointer (some ⟨g, 0, none⟩), .string s] w fun e w' => e = .returned (.tuple #[.int .i64 s.size, .nilIface]) ∧ PrU g (acc ++ Lib.strCells s) tabs w' ∧ Below g w w' ∧ Lib.OthersKept 5 (some g) w w' := by
  obtain ⟨i0, hi, hz0, hz1, hz2⟩ : ∃ i0, Tryd.prog.info? 5 = some i0 ∧ i0.zero = some (.int .u8 0) ∧ i0.size = 1 ∧ i0.bytes = 1 := ⟨_, rfl, rfl, rfl, rfl⟩
  have HP := Aside0.mk h
  clear h
  go_enter Tryd.func26, Tryd.ntmps26
  go_wp2_with (first | (go_at_call 50; refine (check_calls g acc tabs _ HP.out).mono ?_))
  rintro e w1 ⟨rfl, h1, hb1, hk1⟩
  obtain ⟨v, hbk, hown, hne⟩ := h1
  have c0 : w1.cell? ⟨g, 0, none⟩ = some (.pointer (some ⟨g, 0, none⟩)) := cell_of_row _ _ 0 _ _ _ hbk
  have c1 : w1.cell? ⟨g, 1, none⟩ = some v := cell_of_row _ _ 1 _ _ _ hbk
  have hlt : g < w1.heap.size := block_lt_of_cell c0
  go_wp2_with (at_builtin; refine Lib.wpList_append_own_string _ rfl _ _ 43 9 rfl g 5 i0 Tryd.underlying43 Tryd.underlying9 hi hz0 hz1 hz2 _ _ _ rfl hown s rfl ?c3 ?c4 ?c5 ?_)
  case c3 => unfold maxLen; omega
  case c4 => omega
  case c5 => omega
  intro v' w2 hown' hgrow _
  have hb2 : w2.heap[g]? = some (.cells #[.pointer (some ⟨g, 0, none⟩), v, .int .i64 tabs] 47 (0, 0)) := (hgrow.block g hlt (fun e => hne e.symm)).trans hbk
  have d1 : w2.cell? ⟨g, 1, none⟩ = some v := cell_of_row _ _ 1 _ _ _ hb2
  have f1 : w2.frozen? ⟨g, 1, none⟩ = false := frozen_of_row _ _ 1 _ _ hb2
  obtain ⟨ao, n', cap, rfl⟩ : ∃ ao n' cap, v' = .slice ao n' cap := by
    rcases hown'.2 with ⟨hv, _⟩ | ⟨g, cap, cur, hv, _⟩
    · exact ⟨_, _, _, hv⟩
    · exact ⟨_, _, _, hv⟩
  go_wp2
  go_ret2
  have hne' : (Value.slice ao n' cap).ownBlock ≠ some g := fun e => by
    obtain ⟨cells, hc⟩ := own_typed hown' g e
    rw [hb2] at hc
    cases hc
  rw [show acc.length + s.size = (acc ++ Lib.strCells s).length by rw [List.length_append, Lib.strCells_length]] at hown'
  refine ⟨rfl, ⟨_, set1 hb2, own_set hown' hne', hne'⟩, ?_, (hk1.grown hgrow ?_).setCell ⟨g, 1, none⟩ rfl _⟩
  · exact (hb1.grown hgrow (Nat.le_of_lt hlt) (fun k hk => (hown.lt k hk).1)).setCell (p := ⟨g, 1, none⟩) (Nat.le_refl _) _
  · intro k hk
    obtain ⟨c, hc⟩ := own_typed hown k hk
    exact ⟨c, _, hc⟩
end Go.Proofs.YtijpghipfopplaaDoor.PDe
namespace Go.Proofs.YtijpghipfopplaaDoor.PDe
open Go.RowKit Go.Proofs.YtijpghipfopplaaDoorW.PrintWords

set_option maxHeartbeats 2000000 in
set_option maxRecDepth 100000 in
theorem string_calls (b : Nat) (l : List UInt8) (tabs : Int) (w : World) (h : Pr b (Lib.byteCells l) tabs w) (h0 : l ≠ []) :
    Calls Tryd.prog 12 #[.pointer (some ⟨b, 0, none⟩)] w fun e w' => e = .returned (.string ⟨l.toArray⟩) ∧ Below b w w' := by
  obtain ⟨p, v, hp, hbk, hown, hne⟩ := h
  have hl0 : l.length ≠ 0 := by simpa using h0
  rw [Lib.byteCells_length] at hown
  obtain ⟨g, cap, cur, rfl, hbg, hg, hnc, hcm, hcs, htake⟩ : ∃ g cap cur, v = .slice (some ⟨g, 0, none⟩) l.length cap ∧ b ≤ g ∧ w.heap[g]? = some (.cells cur 5 (0, 0)) ∧ l.length ≤ cap ∧ cap ≤ maxLen ∧ cur.size = cap * 1 ∧ cur.toList.take (l.length * 1) = Lib.byteCells l := by
    rcases hown.2 with ⟨_, hz⟩ | ⟨g, cap, cur, hv, r⟩
    · exact absurd hz hl0
    · exact ⟨g, cap, cur, hv, r⟩
  have c1 : w.drew.cell? ⟨b, 1, none⟩ = some (.slice (some ⟨g, 0, none⟩) l.length cap) := cell_of_row w.drew b 1 _ 47 (0, 0) hbk
  have hSD : (Builtin.unsafeSliceData_ #[43] 77 #[.slice (some ⟨g, 0, none⟩) l.length cap]).run Tryd.prog w.drew = .ok (.pointer (some ⟨g, 0, none⟩)) w.drew :=
    Lib.run_unsafeSliceData_row _ _ _ _ _ _ (by omega)
  have hUS : (Builtin.unsafeString_ #[77, 3] 9 #[.pointer (some ⟨g, 0, none⟩), .int .i64 l.length]).run Tryd.prog w.drew = .ok (.string ⟨l.toArray⟩) (w.drew.freeze ⟨g, 0, none⟩ l.length) := by
    refine Lib.run_unsafeString_row w.drew 77 3 9 5 Tryd.underlying77 (by kernel_rfl) g cur.size (by have hg' : w.drew.heap[g]? = some (.cells cur 5 (0, 0)) := hg; simp [World.shape?, hg']) l h0 (by omega) (by unfold maxLen at hcm; omega) ?_
    intro j x hx
    have := hown.cells (g := g) rfl j (.int .u8 x.toNat) (by simp [Lib.byteCells, hx])
    exact this
  have mixed : Tryd.prog.follows Departure.mixedOrders = true := by kernel_rfl
  go_enter Tryd.func12, Tryd.ntmps12
  go_wp2
  go_region_o
  all_goals (go_wp2; go_ret; exact ⟨rfl, Lib.below_freeze (Below.drew (Below.refl b w)) (p := ⟨g, 0, none⟩) hbg _⟩)
end Go.Proofs.YtijpghipfopplaaDoor.PDe
namespace Go.Proofs.YtijpghipfopplaaDoor.PDe
open Go.RowKit Go.Proofs.YtijpghipfopplaaDoorW.PrintWords

def digB : Nat → ByteArray | 0 => ⟨#[48]⟩ | 1 => ⟨#[49]⟩ | _ => ⟨#[50]⟩
set_option maxHeartbeats 2000000 in
set_option maxRecDepth 100000 in
theorem itoa_calls (n : Nat) (w : World) : Calls Tryd.prog 27 #[.int .i64 (dig n)] w fun e w' => e = .returned (.string (digB n)) ∧ w' = w := by
  match n with
  | 0 =>
    show Calls Tryd.prog 27 #[.int .i64 0] w fun e w' => e = .returned (.string ⟨#[48]⟩) ∧ w' = w
    go_enter Tryd.func27, Tryd.ntmps27
    go_wp2
    go_ret
    exact ⟨by kernel_rfl, rfl⟩
  | 1 =>
    show Calls Tryd.prog 27 #[.int .i64 1] w fun e w' => e = .returned (.string ⟨#[49]⟩) ∧ w' = w
    go_enter Tryd.func27, Tryd.ntmps27
    go_wp2
    go_ret
    exact ⟨by kernel_rfl, rfl⟩
  | k + 2 =>
    show Calls Tryd.prog 27 #[.int .i64 2] w fun e w' => e = .returned (.string ⟨#[50]⟩) ∧ w' = w
    go_enter Tryd.func27, Tryd.ntmps27
    go_wp2
    go_ret
    exact ⟨by kernel_rfl, rfl⟩
end Go.Proofs.YtijpghipfopplaaDoor.PDe
namespace Go.Proofs
open Go.Shelf
theorem Tryd.extra105 : Builder.Extra Tryd.prog Tryd.lays105_ren where
  sizeBuilder := by kernel_rfl
  liesBuilder := by kernel_rfl
  t5 := Tryd.underlying5
  a5 := Tryd.isAgg5
  z5 := Tryd.sizeOf5
  v5 := Tryd.zeroValue5
  infoByte := by kernel_rfl
  cellsByte := by kernel_rfl
  sizeByte := by kernel_rfl
  neB5 := by decide
namespace YtijpghipfopplaaDoor.PDe
open Go.RowKit Go.Proofs.YtijpghipfopplaaDoorW.PrintWords
def tabsB (c : Nat) : List UInt8 := Lib.repeatL [9] c
theorem repeat_calls (c : Nat) (hc : c ≤ 1000) (w : World) : Calls Tryd.prog 25 #[.string ⟨#[9]⟩, .int .i64 c] w fun e w' => e = .returned (.string ⟨(tabsB c).toArray⟩) ∧ Below w.heap.size w w' :=
  Any.strings_Repeat Tryd.lays105 Tryd.extra105 ⟨#[9]⟩ c w (by omega) (by show 1 * c ≤ _; omega)
end YtijpghipfopplaaDoor.PDe
end Go.Proofs
namespace Go.Proofs.YtijpghipfopplaaDoor.PDe
open Go.RowKit Go.Proofs.YtijpghipfopplaaDoorW.PrintWords

def digT : Nat → List UInt8 | 0 => [48] | 1 => [49] | _ => [50]
theorem digB_data (n : Nat) : (digB n).data.toList = digT n := by match n with | 0 => rfl | 1 => rfl | _ + 2 => rfl
/-- An operator's level and sign. -/
def lvN : Nat → Int | 0 => 9 | 1 => 9 | _ => 10
def sgN : Nat → List UInt8 | 0 => [43] | 1 => [45] | _ => [42]
/-- Whether a text stands in brackets at a level. -/
def Ex.low : Ex → Int → Bool
  | .two o _ _, l => decide (lvN o < l)
  | _, _ => false
def Ex.text : Ex → List UInt8
  | .num n => digT n
  | .var => [121]
  | .neg e => [45] ++ (if e.low 11 then [40] ++ e.text ++ [41] else e.text)
  | .two o a b => (if a.low (lvN o) then [40] ++ a.text ++ [41] else a.text) ++ [32] ++ sgN o ++ [32] ++ (if b.low (lvN o + 1) then [40] ++ b.text ++ [41] else b.text)
/-- An expression's text as a part of a level. -/
def Ex.part (e : Ex) (l : Int) : List UInt8 := if e.low l then [40] ++ e.text ++ [41] else e.text
/-- What a printer is handed. -/
inductive Pt | str (s : List UInt8) | num (n : Nat) | kind (t : Bool) | inner (e : Ex) (l : Int) | ex (e : Ex)
def Pt.text : Pt → List UInt8
  | .str s => s
  | .num n => digT n
  | .kind false => [105, 110, 116]
  | .kind true => [98, 111, 111, 108]
  | .inner e l => e.part l
  | .ex e => e.text
def texts (l : List Pt) : List UInt8 := l.flatMap Pt.text
/-- How a part lies in the row of parts. -/
def PtV (w0 : World) : Pt → Value → Prop
  | .str s, v => v = .iface 9 (.string ⟨s.toArray⟩)
  | .num n, v => v = .iface 3 (.int .i64 (dig n))
  | .kind t, v => v = .iface 51 (.int .i64 (tyI t))
  | .inner e l, v => ∃ cs, kE.K w0 e cs ∧ v = .iface 73 (.agg (cs ++ [Value.int .i64 l]).toArray)
  | .ex e, v => ∃ cs, kE.K w0 e cs ∧ v = .iface 24 (.agg cs.toArray)
/-- Statements' lines, at a depth. -/
def Bl.text : Bl → Nat → List UInt8
  | .nil, _ => []
  | .set e, n => tabsB n ++ ([120, 32, 61, 32] ++ e.text ++ [59]) ++ [10]
  | .ret e, n => tabsB n ++ ([114, 101, 116, 117, 114, 110, 32] ++ e.text ++ [59]) ++ [10]
  | .whil b, n => tabsB n ++ ([119, 104, 105, 108, 101, 32, 40] ++ [48] ++ [41, 32, 123]) ++ [10] ++ b.text (n + 1) ++ (tabsB n ++ [125] ++ [10])
  | .iff b, n => tabsB n ++ ([105, 102, 32, 40] ++ [48] ++ [41, 32, 123]) ++ [10] ++ (match b with
      | .nil => []
      | b => tabsB n ++ [125, 32, 101, 108, 115, 101, 32, 123] ++ [10] ++ b.text (n + 1)) ++ (tabsB n ++ [125] ++ [10])
/-- What a printer's method leaves. -/
def Wrote (w0 : World) (g : Nat) (acc : List UInt8) (tabs : Int) (t : List UInt8) (w w' : World) : Prop :=
  Below g w0 w' ∧ Pr g (Lib.byteCells (acc ++ t)) tabs w' ∧ Lib.OthersKept 5 (some g) w w' ∧ w.heap.size ≤ w'.heap.size
theorem cells_app (acc : List UInt8) (s : List UInt8) : Lib.byteCells acc ++ Lib.strCells ⟨s.toArray⟩ = Lib.byteCells (acc ++ s) := by
  simp [Lib.byteCells, Lib.strCells]
theorem write_wrote (w0 : World) (g : Nat) (acc s : List UInt8) (tabs : Int) (w : World) (hb : Below g w0 w) (h : Pr g (Lib.byteCells acc) tabs w) (hlen : acc.length + s.length ≤ 140737488355328) (hs : w.heap.size ≤ w.heap.size) :
    Calls Tryd.prog 26 #[.pointer (some ⟨g, 0, none⟩), .string ⟨s.toArray⟩] w fun e w' => (∃ v, e = .returned v) ∧ Wrote w0 g acc tabs s w w' := by
  refine (write_calls g _ tabs ⟨s.toArray⟩ w h (by rw [Lib.byteCells_length]; show acc.length + s.toArray.size ≤ _; simpa using hlen)).mono ?_
  rintro e w' ⟨rfl, h1, h2, h3⟩
  rw [cells_app] at h1
  exact ⟨⟨_, rfl⟩, hb.trans h2, h1.pr, h3, h2.size⟩
end Go.Proofs.YtijpghipfopplaaDoor.PDe
namespace Go.Proofs.YtijpghipfopplaaDoor.PDe
open Go.RowKit Go.Proofs.YtijpghipfopplaaDoorW.PrintWords

def LIM : Nat := 1000000
/-- An expression is put rightly. -/
def ePut (w0 : World) (g : Nat) (x : Ex) : Prop := ∀ (acc : List UInt8) (tabs : Int) (w : World) (cs : List Value), kE.K w0 x cs → Below g w0 w → Pr g (Lib.byteCells acc) tabs w → acc.length + x.text.length ≤ LIM →
  Calls Tryd.prog 29 #[.pointer (some ⟨g, 0, none⟩), .agg cs.toArray] w fun e w' => e = .returned (.tuple #[]) ∧ Wrote w0 g acc tabs x.text w w'
def iPut (w0 : World) (g : Nat) (x : Ex) (l : Int) : Prop := ∀ (acc : List UInt8) (tabs : Int) (w : World) (cs : List Value), kE.K w0 x cs → Below g w0 w → Pr g (Lib.byteCells acc) tabs w → acc.length + (x.part l).length ≤ LIM →
  Calls Tryd.prog 28 #[.pointer (some ⟨g, 0, none⟩), .agg (cs ++ [Value.int .i64 l]).toArray] w fun e w' => e = .returned (.tuple #[]) ∧ Wrote w0 g acc tabs (x.part l) w w'
/-- What is asked of a part. -/
def Pt.ok (w0 : World) (g : Nat) : Pt → Prop
  | .inner e l => iPut w0 g e l
  | .ex e => ePut w0 g e
  | _ => True
theorem ta9 (v : Value) (w : World) : (Instr.typeAssert (.iface 9 v) 20 9 true).run Tryd.prog w = .ok (.tuple #[v, .bool true]) w := by kernel_rfl
theorem ta3_9 (v : Value) (w : World) : (Instr.typeAssert (.iface 3 v) 20 9 true).run Tryd.prog w = .ok (.tuple #[.string ⟨#[]⟩, .bool false]) w := by kernel_rfl
theorem ta3 (v : Value) (w : World) : (Instr.typeAssert (.iface 3 v) 20 3 true).run Tryd.prog w = .ok (.tuple #[v, .bool true]) w := by kernel_rfl
theorem ta51_9 (v : Value) (w : World) : (Instr.typeAssert (.iface 51 v) 20 9 true).run Tryd.prog w = .ok (.tuple #[.string ⟨#[]⟩, .bool false]) w := by kernel_rfl
theorem ta51_3 (v : Value) (w : World) : (Instr.typeAssert (.iface 51 v) 20 3 true).run Tryd.prog w = .ok (.tuple #[.int .i64 0, .bool false]) w := by kernel_rfl
theorem ta51 (v : Value) (w : World) : (Instr.typeAssert (.iface 51 v) 20 51 true).run Tryd.prog w = .ok (.tuple #[v, .bool true]) w := by kernel_rfl
theorem ta73_9 (v : Value) (w : World) : (Instr.typeAssert (.iface 73 v) 20 9 true).run Tryd.prog w = .ok (.tuple #[.string ⟨#[]⟩, .bool false]) w := by kernel_rfl
theorem ta73_3 (v : Value) (w : World) : (Instr.typeAssert (.iface 73 v) 20 3 true).run Tryd.prog w = .ok (.tuple #[.int .i64 0, .bool false]) w := by kernel_rfl
theorem ta73_51 (v : Value) (w : World) : (Instr.typeAssert (.iface 73 v) 20 51 true).run Tryd.prog w = .ok (.tuple #[.int .i64 0, .bool false]) w := by kernel_rfl
theorem ta73 (v : Value) (w : World) : (Instr.typeAssert (.iface 73 v) 20 73 true).run Tryd.prog w = .ok (.tuple #[v, .bool true]) w := by kernel_rfl
theorem ta24_9 (v : Value) (w : World) : (Instr.typeAssert (.iface 24 v) 20 9 true).run Tryd.prog w = .ok (.tuple #[.string ⟨#[]⟩, .bool false]) w := by kernel_rfl
theorem ta24_3 (v : Value) (w : World) : (Instr.typeAssert (.iface 24 v) 20 3 true).run Tryd.prog w = .ok (.tuple #[.int .i64 0, .bool false]) w := by kernel_rfl
theorem ta24_51 (v : Value) (w : World) : (Instr.typeAssert (.iface 24 v) 20 51 true).run Tryd.prog w = .ok (.tuple #[.int .i64 0, .bool false]) w := by kernel_rfl
theorem ta24_73 (v : Value) (w : World) : (Instr.typeAssert (.iface 24 v) 20 73 true).run Tryd.prog w = .ok (.tuple #[.agg #[.int .i64 0, .int .i64 0, .int .i64 0, .string ⟨#[]⟩, .slice none 0 0, .int .i64 0], .bool false]) w := by kernel_rfl
theorem ta24 (v : Value) (w : World) : (Instr.typeAssert (.iface 24 v) 20 24 true).run Tryd.prog w = .ok (.tuple #[v, .bool true]) w := by kernel_rfl
theorem Wrote.trans {w0 : World} {g : Nat} {acc t t' : List UInt8} {tabs : Int} {w w1 w2 : World} (h : Wrote w0 g acc tabs t w w1) (k : Wrote w0 g (acc ++ t) tabs t' w1 w2) : Wrote w0 g acc tabs (t ++ t') w w2 := by
  obtain ⟨_, _, c1, d1⟩ := h
  obtain ⟨a2, b2, c2, d2⟩ := k
  exact ⟨a2, by rw [← List.append_assoc]; exact b2, c1.trans c2, Nat.le_trans d1 d2⟩
theorem Wrote.row {w0 : World} {g : Nat} {acc t : List UInt8} {tabs : Int} {w w1 : World} (h : Wrote w0 g acc tabs t w w1) {k : Nat} {cs : Array Value} {T : TypeId} (hk : w.heap[k]? = some (.cells cs T (0, 0))) (hg : k ≠ g) (hT : T ≠ 5) : w1.heap[k]? = some (.cells cs T (0, 0)) :=
  h.2.2.1 k _ hk (fun e => hg (Option.some.inj e)) (fun c fz e => by injection e with _ e2 _; exact hT e2)
theorem Wrote.nil {w0 : World} {g : Nat} {acc : List UInt8} {tabs : Int} {w : World} (hb : Below g w0 w) (hp : Pr g (Lib.byteCells acc) tabs w) : Wrote w0 g acc tabs [] w w :=
  ⟨hb, by rw [List.append_nil]; exact hp, Lib.OthersKept.refl _ _ _, Nat.le_refl _⟩
theorem Pr.alloc {g : Nat} {acc : List Value} {tabs : Int} {w : World} (h : Pr g acc tabs w) (o : Obj) : Pr g acc tabs (w.alloc o) := by
  obtain ⟨p, v, hp, hg, ho, hne⟩ := h
  have hlt : g < w.heap.size := (Array.getElem?_eq_some_iff.1 hg).1
  exact ⟨p, v, hp, (Go.heap_alloc_old w o hlt).trans hg, own_move ho (fun k hk => Go.heap_alloc_old w o (ho.lt k hk).2), hne⟩
theorem Wrote.of_alloc {w0 : World} {g : Nat} {acc t : List UInt8} {tabs : Int} {w w1 : World} {o : Obj} (h : Wrote w0 g acc tabs t (w.alloc o) w1) : Wrote w0 g acc tabs t w w1 :=
  ⟨h.1, h.2.1, ((Lib.OthersKept.refl 5 (some g) w).alloc o).trans h.2.2.1, Nat.le_trans (by simp) h.2.2.2⟩
theorem texts_step (ps : List Pt) (i : Nat) (p : Pt) (h : ps[i]? = some p) : texts (ps.take (i + 1)) = texts (ps.take i) ++ p.text := by
  rw [List.take_add_one, h]
  simp [texts]
theorem texts_le (ps : List Pt) (i : Nat) (p : Pt) (h : ps[i]? = some p) : (texts (ps.take i)).length + p.text.length ≤ (texts ps).length := by
  have e : texts ps = texts (ps.take (i + 1)) ++ texts (ps.drop (i + 1)) := by rw [texts, texts, texts, ← List.flatMap_append, List.take_append_drop]
  rw [e, texts_step ps i p h]
  simp only [List.length_append]; omega
set_option maxHeartbeats 1200000 in
set_option maxRecDepth 100000 in
theorem put_calls (w0 : World) (g : Nat) (ps : List Pt) (hok : ∀ p ∈ ps, p.ok w0 g) (acc : List UInt8) (tabs : Int) (w : World) (bk c n : Nat) (vs : List Value) (hn : ps.length = n) (hmax : n ≤ 100) (hrow : w.heap[bk]? = some (.cells vs.toArray 20 (0, 0))) (hbg : bk ≠ g)
    (hvs : ∀ (i : Nat) (p : Pt), ps[i]? = some p → ∃ v, vs[i]? = some v ∧ PtV w0 p v) (hb : Below g w0 w) (hp : Pr g (Lib.byteCells acc) tabs w) (hlen : acc.length + (texts ps).length ≤ LIM) :
    Calls Tryd.prog 10 #[.pointer (some ⟨g, 0, none⟩), .slice (some ⟨bk, 0, none⟩) n c] w fun e w' => e = .returned (.tuple #[]) ∧ Wrote w0 g acc tabs (texts ps) w w' := by
  have hu20 := Tryd.underlying20
  have hu47 := Tryd.underlying47
  have W0 := Aside0.mk (Wrote.nil hb hp)
  have HL := Aside0.mk hlen
  have HN := Aside0.mk hn
  have HOK := Aside0.mk hok
  have HVS := Aside0.mk hvs
  have HROW := Aside0.mk hrow
  clear hp hb hlen hn hok hvs hrow
  go_enter Tryd.func10, Tryd.ntmps10
  go_wp2
  go_loopg [13] n (fun k v wr => ∃ i : Nat, i + k = n ∧ v = .int .i64 i ∧ Aside0 (Wrote w0 g acc tabs (texts (ps.take i)) w wr))
  case atStart => exact ⟨0, by omega, rfl, W0⟩
  case round =>
    obtain ⟨i, hik, rfl, hw⟩ := hrel
    by_cases hlt : i < n
    · have hltz : (i : Int) < (n : Int) := by omega
      obtain ⟨p, hp⟩ : ∃ p, ps[i]? = some p := ⟨_, List.getElem?_eq_getElem (by rw [HN.out]; exact hlt)⟩
      obtain ⟨v, hv, hpv⟩ := HVS.out i p hp
      have hok := HOK.out p (List.mem_of_getElem? hp)
      have hcell : wr.cell? ⟨bk, i, none⟩ = some v := by
        rw [cell_of_row _ _ i _ _ _ (hw.out.row HROW.out hbg (by decide))]
        simpa using hv
      have hl : (acc ++ texts (ps.take i)).length + p.text.length ≤ LIM := by
        have := texts_le ps i p hp; have := HL.out; rw [List.length_append]; omega
      have hl2 : (acc ++ texts (ps.take i)).length + p.text.length ≤ 140737488355328 := by unfold LIM at hl; omega
      have HI := Aside0.mk hp
      have HL1 := Aside0.mk hl
      have HL2 := Aside0.mk hl2
      clear hl hl2 hp hv
      have hstep : ∀ w2, Wrote w0 g (acc ++ texts (ps.take i)) tabs p.text wr w2 → Wrote w0 g acc tabs (texts (ps.take (i + 1))) w w2 := fun w2 h => by rw [texts_step ps i p HI.out]; exact hw.out.trans h
      have HS := Aside0.mk hstep
      clear hstep
      cases p with
      | str s =>
        obtain rfl := hpv
        have h9 := ta9
        go_wp2_with (first | (go_at_call 26; refine (write_wrote w0 g _ s tabs _ hw.out.1 hw.out.2.1 HL2.out (Nat.le_refl _)).mono ?_; rintro e w1 ⟨⟨v1, rfl⟩, hw1⟩))
        go_roundg (n - (i + 1))
        case measure => omega
        case rel => exact ⟨i + 1, by omega, by go_num, ⟨HS.out _ hw1⟩⟩
      | num k =>
        obtain rfl := hpv
        have h9 := ta3_9
        have h3 := ta3
        have WD : Wrote w0 g (acc ++ texts (ps.take i)) tabs [] wr wr.drew := ⟨hw.out.1.drew, by rw [List.append_nil]; exact hw.out.2.1, fun _ _ h _ _ => h, Nat.le_refl _⟩
        have hcall := write_wrote w0 g (acc ++ texts (ps.take i)) (digT k) tabs wr.drew WD.1 (by have := WD.2.1; rwa [List.append_nil] at this) HL2.out (Nat.le_refl _)
        have hdg : (⟨(digT k).toArray⟩ : ByteArray) = digB k := by match k with | 0 => rfl | 1 => rfl | _ + 2 => rfl
        rw [hdg] at hcall
        have HC := Aside0.mk hcall
        have HWD := Aside0.mk WD
        clear hcall WD hdg
        have HCI := fun w => itoa_calls k w
        generalize dig k = D at *
        go_wp2
        refine wp_region_still_tail 5 (by kernel_rfl) (by kernel_rfl) ?_
        simp only [List.take_succ_cons, List.take_zero, List.drop_succ_cons, List.drop_zero]
        change wpStill _ _ wr.drew (fun a' => wpList _ _ _ _ a' wr.drew) _ _
        generalize wr.drew = wd at *
        repeat still_step
        still_call (HCI wd)
        refine wpStill_nil ?_
        clear HCI
        go_wp2_with (first | (go_at_call 26; refine HC.out.mono ?_; rintro e w1 ⟨⟨v1, rfl⟩, hw1⟩))
        go_roundg (n - (i + 1))
        case measure => omega
        case rel => exact ⟨i + 1, by omega, by go_num, ⟨HS.out _ (HWD.out.trans (by rw [List.append_nil]; exact hw1))⟩⟩
      | kind t =>
        obtain rfl := hpv
        have h9 := ta51_9
        have h3 := ta51_3
        have h51 := ta51
        have WD : Wrote w0 g (acc ++ texts (ps.take i)) tabs [] wr wr.drew := ⟨hw.out.1.drew, by rw [List.append_nil]; exact hw.out.2.1, fun _ _ h _ _ => h, Nat.le_refl _⟩
        have hcall := write_wrote w0 g (acc ++ texts (ps.take i)) (Pt.kind t).text tabs wr.drew WD.1 (by have := WD.2.1; rwa [List.append_nil] at this) HL2.out (Nat.le_refl _)
        have HIX : ∀ w, (Instr.index 71 (.agg #[.string ⟨#[]⟩, .string ⟨#[105, 110, 116]⟩, .string ⟨#[98, 111, 111, 108]⟩]) (.int .i64 (tyI t))).run Tryd.prog w = .ok (.string ⟨(Pt.kind t).text.toArray⟩) w := by cases t <;> intro w <;> kernel_rfl
        have HBU : ∀ w, (Instr.build 71 #[(0, .string ⟨#[]⟩), (1, .string ⟨#[105, 110, 116]⟩), (2, .string ⟨#[98, 111, 111, 108]⟩)]).run Tryd.prog w = .ok (.agg #[.string ⟨#[]⟩, .string ⟨#[105, 110, 116]⟩, .string ⟨#[98, 111, 111, 108]⟩]) w := by intro w; kernel_rfl
        have HC := Aside0.mk hcall
        have HWD := Aside0.mk WD
        clear hcall WD
        generalize (Pt.kind t).text = TX at *
        generalize tyI t = D at *
        go_wp2
        refine wp_region_still_tail 6 (by kernel_rfl) (by kernel_rfl) ?_
        simp only [List.take_succ_cons, List.take_zero, List.drop_succ_cons, List.drop_zero]
        change wpStill _ _ wr.drew (fun a' => wpList _ _ _ _ a' wr.drew) _ _
        generalize wr.drew = wd at *
        repeat still_step
        refine wpStill_nil ?_
        go_wp2_with (first | (go_at_call 26; refine HC.out.mono ?_; rintro e w1 ⟨⟨v1, rfl⟩, hw1⟩))
        go_roundg (n - (i + 1))
        case measure => omega
        case rel => exact ⟨i + 1, by omega, by go_num, ⟨HS.out _ (HWD.out.trans (by rw [List.append_nil]; exact hw1))⟩⟩
      | inner e l =>
        obtain ⟨cs, hK, rfl⟩ := hpv
        obtain ⟨A, c, rfl, _⟩ := kE_open hK
        have h9 := ta73_9
        have h3 := ta73_3
        have h51 := ta73_51
        have h73 := ta73
        have hu73 := Tryd.underlying73
        have hgs : g ≤ wr.heap.size := by obtain ⟨_, _, _, hg, _⟩ := hw.out.2.1; exact Nat.le_of_lt (Array.getElem?_eq_some_iff.1 hg).1
        have HLe : (acc ++ texts (ps.take i)).length + (e.part l).length ≤ LIM := by have h := HL1.out; simp only [Pt.text] at h; exact h
        have HE : ∀ o, Calls Tryd.prog 28 #[.pointer (some ⟨g, 0, none⟩), .agg #[.int .i64 e.kind, .int .i64 e.op, .int .i64 e.n, .string e.nm, .slice A e.args.length c, .int .i64 l]] (wr.alloc o) fun r w' => r = .returned (.tuple #[]) ∧ Wrote w0 g (acc ++ texts (ps.take i)) tabs (e.part l) (wr.alloc o) w' :=
          fun o => by
            have h : iPut w0 g e l := hok
            have h2 := h (acc ++ texts (ps.take i)) tabs (wr.alloc o) _ hK (hw.out.1.alloc hgs o) (hw.out.2.1.alloc o) HLe
            simp only [List.cons_append, List.nil_append] at h2
            exact h2
        clear hok hK HLe
        simp only [Pt.text] at HS
        simp only [List.cons_append, List.nil_append] at hcell
        generalize e.kind = K at *; generalize e.op = O at *; generalize e.n = N at *; generalize e.nm = S at *; generalize e.args.length = L at *
        go_wp2_with (first | (go_at_call 28; refine (HE _).mono ?_; rintro r w1 ⟨rfl, hw1⟩))
        go_roundg (n - (i + 1))
        case measure => omega
        case rel => exact ⟨i + 1, by omega, by go_num, ⟨HS.out _ hw1.of_alloc⟩⟩
      | ex e =>
        obtain ⟨cs, hK, rfl⟩ := hpv
        obtain ⟨A, c, rfl, _⟩ := kE_open hK
        have h9 := ta24_9
        have h3 := ta24_3
        have h51 := ta24_51
        have h73 := ta24_73
        have h24 := ta24
        have hu24 := Tryd.underlying24
        have hgs : g ≤ wr.heap.size := by obtain ⟨_, _, _, hg, _⟩ := hw.out.2.1; exact Nat.le_of_lt (Array.getElem?_eq_some_iff.1 hg).1
        have HE : ∀ o, Calls Tryd.prog 29 #[.pointer (some ⟨g, 0, none⟩), .agg #[.int .i64 e.kind, .int .i64 e.op, .int .i64 e.n, .string e.nm, .slice A e.args.length c]] (wr.alloc o) fun r w' => r = .returned (.tuple #[]) ∧ Wrote w0 g (acc ++ texts (ps.take i)) tabs e.text (wr.alloc o) w' :=
          fun o => hok _ tabs _ _ hK (hw.out.1.alloc hgs o) (hw.out.2.1.alloc o) HL1.out
        clear hok hK
        generalize e.kind = K at *; generalize e.op = O at *; generalize e.n = N at *; generalize e.nm = S at *; generalize e.args.length = L at *
        go_wp2_with (first | (go_at_call 29; refine (HE _).mono ?_; rintro r w1 ⟨rfl, hw1⟩))
        go_roundg (n - (i + 1))
        case measure => omega
        case rel => exact ⟨i + 1, by omega, by go_num, ⟨HS.out _ hw1.of_alloc⟩⟩
    · have hltz : ¬ (i : Int) < (n : Int) := by omega
      go_wp2
      go_end0
      have : i = n := by omega
      subst this
      refine ⟨rfl, ?_⟩
      have := hw.out
      rwa [List.take_of_length_le (by rw [HN.out]; exact Nat.le_refl _)] at this
end Go.Proofs.YtijpghipfopplaaDoor.PDe
namespace Go.Proofs.YtijpghipfopplaaDoor.PDe
open Go.RowKit Go.Proofs.YtijpghipfopplaaDoorW.PrintWords

theorem below_drewN {B : Nat} {a w : World} (h : Below B a w) (n : Nat) : Below B a (w.drewN n) := ⟨h.os, h.tape, h.output, h.size, h.block⟩
/-- What memory of its own changes nothing. -/
theorem Wrote.quiet {w0 : World} {g : Nat} {acc : List UInt8} {tabs : Int} {w w' : World} (hb : Below g w0 w) (hp : Pr g (Lib.byteCells acc) tabs w) (h : Below w.heap.size w w') : Wrote w0 g acc tabs [] w w' := by
  obtain ⟨p, v, hpp, hg, ho, hne⟩ := hp
  have hlt : g < w.heap.size := (Array.getElem?_eq_some_iff.1 hg).1
  refine ⟨hb.trans (h.mono (Nat.le_of_lt hlt)), ⟨p, v, hpp, (h.block g hlt).trans hg, ?_, hne⟩, ?_, h.size⟩
  · rw [List.append_nil]
    exact own_move ho (fun k hk => h.block k (ho.lt k hk).2)
  · intro k o hk _ _
    have : k < w.heap.size := (Array.getElem?_eq_some_iff.1 hk).1
    exact (h.block k this).trans hk
theorem Wrote.ready {w0 : World} {g : Nat} {acc : List UInt8} {tabs : Int} {w w' : World} (h : Wrote w0 g acc tabs [] w w') : Below g w0 w' ∧ Pr g (Lib.byteCells acc) tabs w' :=
  ⟨h.1, by have := h.2.1; rwa [List.append_nil] at this⟩
theorem Wrote.after {w0 : World} {g : Nat} {acc t : List UInt8} {tabs : Int} {w w1 w2 : World} (h : Wrote w0 g acc tabs [] w w1) (k : Wrote w0 g acc tabs t w1 w2) : Wrote w0 g acc tabs t w w2 :=
  ⟨k.1, k.2.1, h.2.2.1.trans k.2.2.1, Nat.le_trans h.2.2.2 k.2.2.2⟩
/-- Parts, as they lie in a row. -/
def PtVs (w0 : World) : List Pt → List Value → Prop
  | [], [] => True
  | p :: ps, v :: vs => PtV w0 p v ∧ PtVs w0 ps vs
  | _, _ => False
theorem PtVs.len {w0 : World} : ∀ {ps : List Pt} {vs : List Value}, PtVs w0 ps vs → ps.length = vs.length
  | [], [], _ => rfl
  | p :: ps, v :: vs, h => by simp [PtVs.len h.2]
  | [], _ :: _, h => h.elim
  | _ :: _, [], h => h.elim
theorem PtVs.at {w0 : World} : ∀ {ps : List Pt} {vs : List Value}, PtVs w0 ps vs → ∀ (i : Nat) (p : Pt), ps[i]? = some p → ∃ v, vs[i]? = some v ∧ PtV w0 p v
  | [], [], _, i, p, h => by simp at h
  | q :: ps, v :: vs, h, 0, p, hp => by
    simp at hp; subst hp
    exact ⟨v, rfl, h.1⟩
  | q :: ps, v :: vs, h, i + 1, p, hp => by
    obtain ⟨u, h1, h2⟩ := PtVs.at h.2 i p (by simpa using hp)
    exact ⟨u, by simpa using h1, h2⟩
  | [], _ :: _, h, _, _, _ => h.elim
  | _ :: _, [], h, _, _, _ => h.elim
/-- put over a row that was just laid. -/
theorem put_new (w0 : World) (g : Nat) (ps : List Pt) (hok : ∀ p ∈ ps, p.ok w0 g) (acc : List UInt8) (tabs : Int) (W1 : World) (c n : Nat) (vs : List Value) (hn : ps.length = n) (hmax : n ≤ 100)
    (hvs : PtVs w0 ps vs) (hb : Below g w0 W1) (hp : Pr g (Lib.byteCells acc) tabs W1) (hlen : acc.length + (texts ps).length ≤ LIM) :
    Calls Tryd.prog 10 #[.pointer (some ⟨g, 0, none⟩), .slice (some ⟨W1.heap.size, 0, none⟩) n c] (W1.alloc (.cells vs.toArray 20)) fun e w' => e = .returned (.tuple #[]) ∧ Wrote w0 g acc tabs (texts ps) W1 w' := by
  have hgs : g < W1.heap.size := by obtain ⟨_, _, _, hg, _⟩ := hp; exact (Array.getElem?_eq_some_iff.1 hg).1
  refine (put_calls w0 g ps hok acc tabs (W1.alloc (.cells vs.toArray 20)) W1.heap.size c n vs hn hmax (heap_alloc_new W1 _) (by omega) hvs.at (hb.alloc (Nat.le_of_lt hgs) _) (hp.alloc _) hlen).mono ?_
  rintro e w' ⟨rfl, h⟩
  exact ⟨rfl, h.of_alloc⟩
theorem isOp_of (o : Nat) : isOp (opI o) ⟨(sgN o).toArray⟩ (lvN o) := by
  match o with
  | 0 => exact .inl ⟨rfl, rfl, rfl⟩
  | 1 => exact .inr (.inl ⟨rfl, rfl, rfl⟩)
  | _ + 2 => exact .inr (.inr (.inl ⟨rfl, rfl, rfl⟩))
theorem lvN_bd (o : Nat) : 9 ≤ lvN o ∧ lvN o ≤ 10 := by
  match o with
  | 0 => decide
  | 1 => decide
  | k + 2 => exact (by decide : (9 : Int) ≤ 10 ∧ (10 : Int) ≤ 10)
set_option maxHeartbeats 2000000 in
set_option maxRecDepth 100000 in
theorem inner_plain (w0 : World) (g : Nat) (x : Ex) (l : Int) (hx : (x.kind == 5) = false) (hE : ePut w0 g x) : iPut w0 g x l := by
  intro acc tabs w cs hK hb hp hlen
  have hlow : x.part l = x.text := by cases x <;> first | rfl | (simp [Ex.kind] at hx)
  rw [hlow] at hlen ⊢
  have hu73 := Tryd.underlying73
  have hu24 := Tryd.underlying24
  have hgs : g < w.heap.size := by obtain ⟨_, _, _, hg, _⟩ := hp; exact (Array.getElem?_eq_some_iff.1 hg).1
  obtain ⟨A, c, rfl, _⟩ := kE_open hK
  have HE : ∀ w1, Wrote w0 g acc tabs [] w w1 → Calls Tryd.prog 29 #[.pointer (some ⟨g, 0, none⟩), .agg #[.int .i64 x.kind, .int .i64 x.op, .int .i64 x.n, .string x.nm, .slice A x.args.length c]] w1 fun e w' => e = .returned (.tuple #[]) ∧ Wrote w0 g acc tabs x.text w w' :=
    fun w1 h => (hE acc tabs w1 _ hK h.ready.1 h.ready.2 hlen).mono fun e w' k => ⟨k.1, h.after k.2⟩
  have HQ : ∀ w1, Below w.heap.size w w1 → Wrote w0 g acc tabs [] w w1 := fun w1 h => Wrote.quiet hb hp h
  have HX := Aside0.mk HE
  have HQQ := Aside0.mk HQ
  clear HE HQ hE hK hb hp hlen hlow
  simp only [List.cons_append, List.nil_append]
  generalize x.kind = K at *; generalize x.op = O at *; generalize x.n = N at *; generalize x.nm = S at *; generalize x.args.length = L at *
  generalize x.text = T at *
  go_enter Tryd.func28, Tryd.ntmps28
  go_wp2
  obtain ⟨W, hW⟩ : ∃ W, W = w.alloc (.cells #[.int .i64 K, .int .i64 O, .int .i64 N, .string S, .slice A L c, .int .i64 l] 73) := ⟨_, rfl⟩
  rw [← hW]
  have HB : Below w.heap.size w W := by rw [hW]; exact (Below.refl _ w).alloc (Nat.le_refl _) _
  have hcell : ∀ j, W.cell? ⟨w.heap.size, j, none⟩ = (#[.int .i64 K, .int .i64 O, .int .i64 N, .string S, .slice A L c, .int .i64 l] : Array Value)[j]? := fun j => by rw [hW]; exact cell_of_row _ _ _ _ _ _ (heap_alloc_new w _)
  have f0 := hcell 0; have f1 := hcell 1; have f2 := hcell 2; have f3 := hcell 3; have f4 := hcell 4; have f5 := hcell 5
  clear hcell hW
  simp at f0 f1 f2 f3 f4 f5
  have HBB := Aside0.mk HB
  clear HB
  go_quiet (fail)
  go_wp2_with (first | (go_at_call 29; refine (HX.out _ (HQQ.out _ (below_drewN HBB.out nq))).mono ?_; rintro e w1 ⟨rfl, hw1⟩))
  go_end0
  exact ⟨rfl, hw1⟩
set_option maxHeartbeats 2000000 in
set_option maxRecDepth 100000 in
theorem inner_two (w0 : World) (g : Nat) (o : Nat) (x y : Ex) (l : Int) (hl : 0 ≤ l) (hl2 : l ≤ 100) (hE : ePut w0 g (.two o x y)) : iPut w0 g (.two o x y) l := by
  intro acc tabs w cs hK hb hp hlen
  have hu73 := Tryd.underlying73
  have hu24 := Tryd.underlying24
  have hgs : g < w.heap.size := by obtain ⟨_, _, _, hg, _⟩ := hp; exact (Array.getElem?_eq_some_iff.1 hg).1
  obtain ⟨A, c, rfl, _⟩ := kE_open hK
  have hlv := lvN_bd o
  have HLV := fun w => level_op (opI o) _ _ (isOp_of o) w
  have HE : ∀ w1, Wrote w0 g acc tabs [] w w1 → acc.length + (Ex.two o x y).text.length ≤ LIM → Calls Tryd.prog 29 #[.pointer (some ⟨g, 0, none⟩), .agg #[.int .i64 5, .int .i64 (opI o), .int .i64 0, .string ⟨#[]⟩, .slice A 2 c]] w1 fun e w' => e = .returned (.tuple #[]) ∧ Wrote w0 g acc tabs (Ex.two o x y).text w w' :=
    fun w1 h hlen => (hE acc tabs w1 _ hK h.ready.1 h.ready.2 hlen).mono fun e w' k => ⟨k.1, h.after k.2⟩
  have HPT : ∀ w1, Wrote w0 g acc tabs [] w w1 → acc.length + ([40] ++ (Ex.two o x y).text ++ [41]).length ≤ LIM → Calls Tryd.prog 10 #[.pointer (some ⟨g, 0, none⟩), .slice (some ⟨w1.heap.size, 0, none⟩) 3 3] (w1.alloc (.cells #[.iface 9 (.string ⟨#[40]⟩), .iface 24 (.agg #[.int .i64 5, .int .i64 (opI o), .int .i64 0, .string ⟨#[]⟩, .slice A 2 c]), .iface 9 (.string ⟨#[41]⟩)] 20)) fun e w' => e = .returned (.tuple #[]) ∧ Wrote w0 g acc tabs ([40] ++ (Ex.two o x y).text ++ [41]) w w' :=
    fun w1 h hlen => (put_new w0 g [.str [40], .ex (.two o x y), .str [41]] (by
      intro p hp
      simp only [List.mem_cons, List.not_mem_nil, or_false] at hp
      rcases hp with rfl | rfl | rfl
      · trivial
      · exact hE
      · trivial) acc tabs w1 3 3 [.iface 9 (.string ⟨#[40]⟩), .iface 24 (.agg #[.int .i64 5, .int .i64 (opI o), .int .i64 0, .string ⟨#[]⟩, .slice A 2 c]), .iface 9 (.string ⟨#[41]⟩)] rfl (by decide) ⟨rfl, ⟨_, hK, rfl⟩, rfl, trivial⟩ h.ready.1 h.ready.2 (by simpa [texts, Pt.text] using hlen)).mono fun e w' k => ⟨k.1, h.after (by simpa [texts, Pt.text] using k.2)⟩
  have HQ : ∀ w1, Below w.heap.size w w1 → Wrote w0 g acc tabs [] w w1 := fun w1 h => Wrote.quiet hb hp h
  have HX := Aside0.mk HE
  have HPP := Aside0.mk HPT
  have HQQ := Aside0.mk HQ
  clear HE HQ HPT hE hK hb hp
  have e1 : (Ex.two o x y).part l = if (decide (lvN o < l)) = true then [40] ++ (Ex.two o x y).text ++ [41] else (Ex.two o x y).text := rfl
  rw [e1] at hlen ⊢
  clear e1
  show Calls Tryd.prog 28 #[.pointer (some ⟨g, 0, none⟩), .agg #[.int .i64 5, .int .i64 (opI o), .int .i64 0, .string ⟨#[]⟩, .slice A 2 c, .int .i64 l]] w _
  generalize (Ex.two o x y).text = T at *
  generalize opI o = O at *
  generalize lvN o = V at *
  cases hlow : decide (V < l) with
  | true =>
    rw [hlow, if_pos rfl] at hlen
    rw [if_pos rfl]
    have HL := Aside0.mk hlen
    clear hlen HX
    go_enter Tryd.func28, Tryd.ntmps28
    go_wp2
    obtain ⟨W, hW⟩ : ∃ W, W = w.alloc (.cells #[.int .i64 5, .int .i64 O, .int .i64 0, .string ⟨#[]⟩, .slice A 2 c, .int .i64 l] 73) := ⟨_, rfl⟩
    rw [← hW]
    have HB : Below w.heap.size w W := by rw [hW]; exact (Below.refl _ w).alloc (Nat.le_refl _) _
    have hcell : ∀ j, W.cell? ⟨w.heap.size, j, none⟩ = (#[.int .i64 5, .int .i64 O, .int .i64 0, .string ⟨#[]⟩, .slice A 2 c, .int .i64 l] : Array Value)[j]? := fun j => by rw [hW]; exact cell_of_row _ _ _ _ _ _ (heap_alloc_new w _)
    have f0 := hcell 0; have f1 := hcell 1; have f2 := hcell 2; have f3 := hcell 3; have f4 := hcell 4; have f5 := hcell 5
    clear hcell hW
    simp at f0 f1 f2 f3 f4 f5
    have HBB := Aside0.mk HB
    clear HB
    have hlt : w.heap.size < W.heap.size := block_lt_of_cell f0
    go_region_held3 (fun w' => w'.cell? ⟨w.heap.size, 0, none⟩ = some (.int .i64 5) ∧ w'.cell? ⟨w.heap.size, 1, none⟩ = some (.int .i64 O) ∧ w'.cell? ⟨w.heap.size, 5, none⟩ = some (.int .i64 l)) (first | go_keep | exact ⟨x0, x1, x5⟩)
      (first | (go_at_call 52; refine (HLV _).mono ?_; rintro e w1 ⟨rfl, hb1⟩; have x0 := (hb1.cell (p := ⟨w.heap.size, 0, none⟩) (by simp; omega)).trans f0; have x1 := (hb1.cell (p := ⟨w.heap.size, 1, none⟩) (by simp; omega)).trans f1; have x5 := (hb1.cell (p := ⟨w.heap.size, 5, none⟩) (by simp; omega)).trans f5; have x2 := (hb1.cell (p := ⟨w.heap.size, 2, none⟩) (by simp; omega)).trans f2; have x3 := (hb1.cell (p := ⟨w.heap.size, 3, none⟩) (by simp; omega)).trans f3; have x4 := (hb1.cell (p := ⟨w.heap.size, 4, none⟩) (by simp; omega)).trans f4))
    have B1 : Below w.heap.size w w1 := HBB.out.drew.trans (hb1.mono (Nat.le_of_lt hlt))
    have HB1 := Aside0.mk B1
    clear hb1 B1
    go_wp2_with (first | (go_at_call 10; refine (HPP.out _ (HQQ.out _ HB1.out) HL.out).mono ?_; rintro e w2 ⟨rfl, hw2⟩))
    exact bodyPost_ret (results_none rfl _ _ _) rfl ⟨rfl, hw2⟩
  | false =>
    rw [hlow, if_neg (by decide)] at hlen
    rw [if_neg (by decide)]
    have HL := Aside0.mk hlen
    clear hlen HPP
    go_enter Tryd.func28, Tryd.ntmps28
    go_wp2
    obtain ⟨W, hW⟩ : ∃ W, W = w.alloc (.cells #[.int .i64 5, .int .i64 O, .int .i64 0, .string ⟨#[]⟩, .slice A 2 c, .int .i64 l] 73) := ⟨_, rfl⟩
    rw [← hW]
    have HB : Below w.heap.size w W := by rw [hW]; exact (Below.refl _ w).alloc (Nat.le_refl _) _
    have hcell : ∀ j, W.cell? ⟨w.heap.size, j, none⟩ = (#[.int .i64 5, .int .i64 O, .int .i64 0, .string ⟨#[]⟩, .slice A 2 c, .int .i64 l] : Array Value)[j]? := fun j => by rw [hW]; exact cell_of_row _ _ _ _ _ _ (heap_alloc_new w _)
    have f0 := hcell 0; have f1 := hcell 1; have f2 := hcell 2; have f3 := hcell 3; have f4 := hcell 4; have f5 := hcell 5
    clear hcell hW
    simp at f0 f1 f2 f3 f4 f5
    have HBB := Aside0.mk HB
    clear HB
    have hlt : w.heap.size < W.heap.size := block_lt_of_cell f0
    go_region_held3 (fun w' => w'.cell? ⟨w.heap.size, 0, none⟩ = some (.int .i64 5) ∧ w'.cell? ⟨w.heap.size, 1, none⟩ = some (.int .i64 O) ∧ w'.cell? ⟨w.heap.size, 5, none⟩ = some (.int .i64 l)) (first | go_keep | exact ⟨x0, x1, x5⟩)
      (first | (go_at_call 52; refine (HLV _).mono ?_; rintro e w1 ⟨rfl, hb1⟩; have x0 := (hb1.cell (p := ⟨w.heap.size, 0, none⟩) (by simp; omega)).trans f0; have x1 := (hb1.cell (p := ⟨w.heap.size, 1, none⟩) (by simp; omega)).trans f1; have x5 := (hb1.cell (p := ⟨w.heap.size, 5, none⟩) (by simp; omega)).trans f5; have x2 := (hb1.cell (p := ⟨w.heap.size, 2, none⟩) (by simp; omega)).trans f2; have x3 := (hb1.cell (p := ⟨w.heap.size, 3, none⟩) (by simp; omega)).trans f3; have x4 := (hb1.cell (p := ⟨w.heap.size, 4, none⟩) (by simp; omega)).trans f4))
    have B1 : Below w.heap.size w w1 := HBB.out.drew.trans (hb1.mono (Nat.le_of_lt hlt))
    have HB1 := Aside0.mk B1
    clear hb1 B1
    go_wp2_with (first | (go_at_call 29; refine (HX.out _ (HQQ.out _ HB1.out) HL.out).mono ?_; rintro e w2 ⟨rfl, hw2⟩))
    go_end0
    exact ⟨rfl, hw2⟩
theorem inner_calls (w0 : World) (g : Nat) (x : Ex) (l : Int) (hl : 0 ≤ l) (hl2 : l ≤ 100) (hE : ePut w0 g x) : iPut w0 g x l := by
  cases x with
  | num n => exact inner_plain w0 g _ l rfl hE
  | var => exact inner_plain w0 g _ l rfl hE
  | neg e => exact inner_plain w0 g _ l rfl hE
  | two o a b => exact inner_two w0 g o a b l hl hl2 hE
end Go.Proofs.YtijpghipfopplaaDoor.PDe
