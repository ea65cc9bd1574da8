/- The expressions and statements that TreeDeep's programs have, as plain inductive types, and what the document says of them. No walk. tree.expr at the expressions that occur. The statements that TreeDeep's programs have, as a plain inductive type, and what the document says of them. No walk. tree.shapes, and what a look into what it makes finds. tree.stmt and tree.stmts at the statements that occur. The first statement of tree.stmt: what it leaves. -/
import Derived.Test.YtijpghipfopplaaDoorPDex0
import Derived.Test.YtijpghipfopplaaDoorMWrap
import Derived.Test.YtijpghipfopplaaDoorGen
import Derived.Test.YtijpghipfopplaaDoorMShelf
import Derived.Deep.RegionHeld3
set_option linter.unusedVariables false
set_option linter.unusedSimpArgs false
namespace Go.Proofs.YtijpghipfopplaaDoor.PDe
open Go.RowKit Go.Proofs.YtijpghipfopplaaDoorW.PrintWords

inductive Ex | num (n : Nat) | var | neg (e : Ex) | two (o : Nat) (a b : Ex)
def dig : Nat → Int | 0 => 0 | 1 => 1 | _ => 2
def opI : Nat → Int | 0 => 1 | 1 => 2 | _ => 3
def Ex.kind : Ex → Int | .num _ => 1 | .var => 3 | .neg _ => 4 | .two _ _ _ => 5
def Ex.op : Ex → Int | .num _ => 0 | .var => 0 | .neg _ => 20 | .two o _ _ => opI o
def Ex.n : Ex → Int | .num n => dig n | _ => 0
def Ex.nm : Ex → ByteArray | .var => ⟨#[121]⟩ | _ => ⟨#[]⟩
def Ex.args : Ex → List Ex | .neg e => [e] | .two _ a b => [a, b] | _ => []
def Ex.toS : Ex → S24
  | .num n => ⟨1, 0, dig n, ⟨#[]⟩, []⟩
  | .var => ⟨3, 0, 0, ⟨#[121]⟩, []⟩
  | .neg e => ⟨4, 20, 0, ⟨#[]⟩, [e.toS]⟩
  | .two o a b => ⟨5, opI o, 0, ⟨#[]⟩, [a.toS, b.toS]⟩
theorem Ex.toS_eq (x : Ex) : x.toS = ⟨x.kind, x.op, x.n, x.nm, x.args.map Ex.toS⟩ := by cases x <;> rfl
def Ex.fits : Ex → Int → Bool
  | .num _, m => decide (0 < m)
  | .var, m => decide (0 < m)
  | .neg e, m => decide (0 < m) && e.fits (m - 1)
  | .two _ a b, m => decide (0 < m) && (a.fits (m - 1) && b.fits (m - 1))
theorem Ex.fits_eq (x : Ex) (m : Int) : x.fits m = (decide (0 < m) && !(x.args.any fun e => !e.fits (m - 1))) := by cases x <;> simp [Ex.fits, Ex.args]
def kE : Kd Ex := Kd.iso k24 Ex.toS
theorem C_kE {w : World} {A : Option Addr} {xs : List Ex} {n : Nat} (h : Kd.C k24 w A n (xs.map Ex.toS)) : Kd.C kE w A n xs := by
  obtain ⟨h1, h2, h3⟩ := h
  refine ⟨by rw [← h1, List.length_map], h2, fun h0 => ?_⟩
  obtain ⟨ad, e, hc⟩ := h3 h0
  exact ⟨ad, e, fun i x hx => hc i x.toS (by rw [List.getElem?_map, hx]; rfl)⟩
theorem kE_open {w : World} {x : Ex} {cs : List Value} (h : kE.K w x cs) : ∃ A c, cs = [.int .i64 x.kind, .int .i64 x.op, .int .i64 x.n, .string x.nm, .slice A x.args.length c] ∧ x.args.length ≤ c ∧ Kd.C kE w A x.args.length x.args := by
  have h' : k24.K w x.toS cs := h
  rw [Ex.toS_eq] at h'
  obtain ⟨A, c, e, h1, h2⟩ := k24_open h'
  simp only [List.length_map] at e h1 h2
  exact ⟨A, c, e, h1, C_kE h2⟩
end Go.Proofs.YtijpghipfopplaaDoor.PDe
namespace Go.Proofs.YtijpghipfopplaaDoor.PDe
open Go.RowKit Go.Proofs.YtijpghipfopplaaDoorW.PrintWords Go.Proofs.YtijpghipfopplaaDoor.Gen

theorem Ex.isHd (x : Ex) : isHd x.kind x.op x.n x.nm x.args.length := by
  cases x with
  | num n => exact .inl ⟨rfl, rfl, by match n with | 0 => decide | 1 => decide | k + 2 => exact (by decide : (0 : Int) ≤ 2), rfl, rfl⟩
  | var => exact .inr (.inl ⟨rfl, rfl, rfl, rfl, rfl⟩)
  | neg e => exact .inr (.inr (.inl ⟨rfl, rfl, rfl, rfl, rfl⟩))
  | two o a b => exact .inr (.inr (.inr ⟨rfl, by match o with | 0 => exact .inl rfl | 1 => exact .inr (.inl rfl) | _ + 2 => exact .inr (.inr rfl), rfl, rfl, rfl⟩))
theorem below_blk {n : Nat} {w w' : World} (hb : Below n w w') {g : Nat} (hg : g < n) {cs : Array Value} {t : TypeId} (h : w.heap[g]? = some (.cells cs t (0, 0))) : w'.heap[g]? = some (.cells cs t (0, 0)) := (hb.block g hg).trans h
/-- One new row, behind a call. -/
theorem one_row {w w2 : World} {c0 : Array Value} {t0 : TypeId} (hb : Below (w.alloc (.cells c0 t0)).heap.size (w.alloc (.cells c0 t0)) w2) :
    (∀ j, w2.cell? ⟨w.heap.size, j, none⟩ = c0[j]?) ∧ Below w.heap.size w w2 := by
  have e2 : (w.alloc (.cells c0 t0)).heap.size = w.heap.size + 1 := by simp
  rw [e2] at hb
  refine ⟨fun j => ?_, ?_⟩
  · exact cell_of_row _ _ _ _ t0 (0, 0) ((hb.block _ (by omega)).trans (heap_alloc_new w _))
  · exact ((Below.refl _ w).alloc (Nat.le_refl _) _).trans (hb.mono (by omega))
def exprOk (x : Ex) : Prop := ∀ (m : Int) (_ : 0 ≤ m) (_ : m ≤ 1000) (w : World) (cs : List Value), kE.K w x cs →
  Calls Tryd.prog 77 #[.agg cs.toArray, .int .i64 m] w fun e w' => e = .returned (.bool (x.fits m)) ∧ Below w.heap.size w w'
set_option maxHeartbeats 2000000 in
theorem closure_calls (x : Ex) (ih : exprOk x) (m : Int) (h0 : 1 ≤ m) (h1 : m ≤ 1000) (b : Nat) (w : World) (cs : List Value) (hK : kE.K w x cs) (hm : w.cell? ⟨b, 0, none⟩ = some (.int .i64 m)) :
    Calls Tryd.prog 85 #[.agg cs.toArray, .pointer (some ⟨b, 0, none⟩)] w fun e w' => e = .returned (.bool (!x.fits (m - 1))) ∧ Below w.heap.size w w' := by
  have hu24 := Tryd.underlying24
  obtain ⟨A, c, rfl, hc, hC⟩ := kE_open hK
  have HW : wrap64 (m - 1) = m - 1 := by unfold wrap64; omega
  have hcall : ∀ w', Below w.heap.size w w' → Calls Tryd.prog 77 #[.agg #[.int .i64 x.kind, .int .i64 x.op, .int .i64 x.n, .string x.nm, .slice A x.args.length c], .int .i64 (m - 1)] w' fun e w'' => e = .returned (.bool (x.fits (m - 1))) ∧ Below w'.heap.size w' w'' :=
    fun w' hb => ih (m - 1) (by omega) (by omega) w' _ (kE.K_below hb hK)
  have hbk : b < w.heap.size := block_lt_of_cell hm
  have HC := Aside0.mk hcall
  clear hcall ih hK hC
  generalize x.kind = K at *; generalize x.op = O at *; generalize x.n = N at *; generalize x.nm = S at *; generalize x.args.length = L at *
  generalize x.fits (m - 1) = r at *
  go_enter Tryd.func85, Tryd.ntmps85
  have hm2 : (w.alloc (.cells #[.int .i64 K, .int .i64 O, .int .i64 N, .string S, .slice A L c] 24)).cell? ⟨b, 0, none⟩ = some (.int .i64 m) := (((Below.refl _ w).alloc (Nat.le_refl _) _).cell (p := ⟨b, 0, none⟩) hbk).trans hm
  go_wp2_with (first | (go_at_call 77; refine (HC.out _ ((Below.refl _ w).alloc (Nat.le_refl _) _)).mono ?_; rintro e w1 ⟨rfl, hb1⟩))
  go_ret
  exact ⟨rfl, (one_row hb1).2⟩
set_option maxHeartbeats 2000000 in
theorem expr_step (x : Ex) (ih : ∀ y ∈ x.args, exprOk y) : exprOk x := by
  intro m h0 h1 w cs hK
  have hu24 := Tryd.underlying24
  obtain ⟨A, c, rfl, hc, hC⟩ := kE_open hK
  have hH := x.isHd
  have HC := Aside0.mk hC
  have HO := fun (A : Option Addr) (c : Nat) (w : World) => own_calls x.kind x.op x.n x.nm x.args.length hH A x.args.length c w
  have hcont : ∀ (w1 : World) (b : Nat), Below w.heap.size w w1 → 0 < m → w1.cell? ⟨b, 0, none⟩ = some (.int .i64 m) →
      Calls Tryd.prog 75 #[.slice A x.args.length c, .func (.func 85) #[] #[.pointer (some ⟨b, 0, none⟩)]] w1 fun e w' => e = .returned (.bool (x.args.any fun e => !e.fits (m - 1))) ∧ Below w1.heap.size w1 w' := by
    intro w1 b hb hm hcell
    refine containsFunc Tryd.cfE kE 5 rfl Tryd.isAgg24 Tryd.sizeOf24 (fun e => !e.fits (m - 1)) 85 #[.pointer (some ⟨b, 0, none⟩)] (fun args w => by kernel_rfl) A c x.args w1 (Kd.C_below hC hb) ?_
    intro W y cs hy hW hKy
    exact (closure_calls y (ih y hy) m (by omega) h1 b W cs hKy ((hW.cell (p := ⟨b, 0, none⟩) (block_lt_of_cell hcell)).trans hcell)).mono fun e w' h => ⟨h.1, hW.trans (h.2.mono hW.size)⟩
  rw [Ex.fits_eq]
  have HCONT := Aside0.mk hcont
  clear hcont ih hK hC hH
  generalize (x.args.any fun e => !e.fits (m - 1)) = q at *
  generalize x.kind = K at *; generalize x.op = O at *; generalize x.n = N at *; generalize x.nm = S at *; generalize x.args.length = L at *
  by_cases hm : 0 < m
  · have g1 : decide (0 < m) = true := decide_eq_true hm
    have HM := Aside0.mk hm
    rw [g1]
    go_enter Tryd.func77, Tryd.ntmps77
    go_wp2_with (first
      | (go_at_call 84; refine (HO _ _ _).mono ?_; rintro e w1 ⟨rfl, hb1⟩; obtain ⟨p0, p1, hb3⟩ := two_rows hb1; clear hb1; have q0 := p0 0; have q1 := p0 1; have q2 := p0 2; have q3 := p0 3; have q4 := p0 4; have r0 := p1 0; clear p0 p1; simp at q0 q1 q2 q3 q4 r0)
      | (go_at_call 75; refine (HCONT.out _ _ hb3 HM.out r0).mono ?_; rintro e w2 ⟨rfl, hb2⟩))
    go_ret
    exact ⟨by simp, hb3.trans (hb2.mono hb3.size)⟩
  · have g1 : decide (0 < m) = false := decide_eq_false hm
    clear HCONT
    rw [g1]
    go_enter Tryd.func77, Tryd.ntmps77
    go_wp2_with (first
      | (go_at_call 84; refine (HO _ _ _).mono ?_; rintro e w1 ⟨rfl, hb1⟩; obtain ⟨p0, p1, hb3⟩ := two_rows hb1; clear hb1; have q0 := p0 0; have q1 := p0 1; have q2 := p0 2; have q3 := p0 3; have q4 := p0 4; have r0 := p1 0; clear p0 p1; simp at q0 q1 q2 q3 q4 r0))
    go_ret
    exact ⟨rfl, hb3⟩
theorem expr_calls : ∀ x, exprOk x
  | .num n => expr_step _ (fun y hy => by simp [Ex.args] at hy)
  | .var => expr_step _ (fun y hy => by simp [Ex.args] at hy)
  | .neg e => expr_step _ (fun y hy => by simp [Ex.args] at hy; rw [hy]; exact expr_calls e)
  | .two o a b => expr_step _ (fun y hy => by
      simp [Ex.args] at hy
      rcases hy with hy | hy
      · rw [hy]; exact expr_calls a
      · rw [hy]; exact expr_calls b)
end Go.Proofs.YtijpghipfopplaaDoor.PDe
namespace Go.Proofs.YtijpghipfopplaaDoor.PDe
open Go.RowKit Go.Proofs.YtijpghipfopplaaDoorW.PrintWords

/-- A list of at most one statement. -/
inductive Bl | nil | set (e : Ex) | ret (e : Ex) | whil (b : Bl) | iff (b : Bl)
def Bl.toL : Bl → List S27
  | .nil => []
  | .set e => [⟨2, 0, ⟨#[120]⟩, [e.toS], [], []⟩]
  | .ret e => [⟨8, 0, ⟨#[]⟩, [e.toS], [], []⟩]
  | .whil b => [⟨5, 0, ⟨#[]⟩, [(Ex.num 0).toS], b.toL, []⟩]
  | .iff b => [⟨4, 0, ⟨#[]⟩, [(Ex.num 0).toS], [], b.toL⟩]
def Bl.kind : Bl → Int | .nil => 0 | .set _ => 2 | .ret _ => 8 | .whil _ => 5 | .iff _ => 4
def Bl.nm : Bl → ByteArray | .set _ => ⟨#[120]⟩ | _ => ⟨#[]⟩
def Bl.args : Bl → List Ex | .nil => [] | .set e => [e] | .ret e => [e] | _ => [.num 0]
def Bl.th : Bl → Bl | .whil b => b | _ => .nil
def Bl.el : Bl → Bl | .iff b => b | _ => .nil
def Bl.toS (b : Bl) : S27 := ⟨b.kind, 0, b.nm, b.args.map Ex.toS, b.th.toL, b.el.toL⟩
def Bl.lst : Bl → List Bl | .nil => [] | b => [b]
theorem Bl.toL_eq (b : Bl) : b.toL = b.lst.map Bl.toS := by cases b <;> rfl
theorem Bl.len (b : Bl) : b.toL.length = b.lst.length := by rw [b.toL_eq, List.length_map]
def Bl.fits : Bl → Int → Bool
  | .nil, _ => true
  | .set e, m => decide (1 ≤ m) && e.fits 100
  | .ret e, m => decide (1 ≤ m) && e.fits 100
  | .whil b, m => decide (1 ≤ m) && b.fits (m - 1)
  | .iff b, m => decide (1 ≤ m) && b.fits (m - 1)
theorem Bl.fits_eq (b : Bl) (hb : b ≠ .nil) (m : Int) : b.fits m = (decide (1 ≤ m) && !(b.args.any fun e => !e.fits 100) && b.th.fits (m - 1) && b.el.fits (m - 1)) := by
  cases b <;> simp [Bl.fits, Bl.args, Bl.th, Bl.el, Ex.fits] at hb ⊢
theorem Bl.lst_any (b : Bl) (m : Int) : (!(b.lst.any fun s => !s.fits m)) = b.fits m := by cases b <;> simp [Bl.lst, Bl.fits]
def kS : Kd Bl := Kd.iso k27 Bl.toS
theorem C_kS {w : World} {A : Option Addr} {b : Bl} {n : Nat} (h : Kd.C k27 w A n b.toL) : Kd.C kS w A n b.lst := by
  rw [Bl.toL_eq] at h
  obtain ⟨h1, h2, h3⟩ := h
  refine ⟨by rw [← h1, List.length_map], h2, fun h0 => ?_⟩
  obtain ⟨ad, e, hc⟩ := h3 h0
  exact ⟨ad, e, fun i x hx => hc i x.toS (by rw [List.getElem?_map, hx]; rfl)⟩
theorem kS_open {w : World} {b : Bl} {cs : List Value} (h : kS.K w b cs) : ∃ A3 c3 A4 c4 A5 c5, cs = [.int .i64 b.kind, .int .i64 0, .string b.nm, .slice A3 b.args.length c3, .slice A4 b.th.lst.length c4, .slice A5 b.el.lst.length c5] ∧
    b.args.length ≤ c3 ∧ Kd.C kE w A3 b.args.length b.args ∧ b.th.lst.length ≤ c4 ∧ Kd.C kS w A4 b.th.lst.length b.th.lst ∧ b.el.lst.length ≤ c5 ∧ Kd.C kS w A5 b.el.lst.length b.el.lst := by
  have h' : k27.K w b.toS cs := h
  obtain ⟨A3, c3, A4, c4, A5, c5, e, h3, g3, h4, g4, h5, g5⟩ := k27_open h'
  simp only [Bl.toS, List.length_map, Bl.len] at e h3 g3 h4 g4 h5 g5
  exact ⟨A3, c3, A4, c4, A5, c5, e, h3, C_kE g3, h4, C_kS g4, h5, C_kS g5⟩
end Go.Proofs.YtijpghipfopplaaDoor.PDe
namespace Go.Proofs.YtijpghipfopplaaDoor.PDe
open Go.RowKit Go.MapKept Go.Proofs.YtijpghipfopplaaDoorW.PrintWords

theorem run_makeMap_new (P : Program) (t : TypeId) (w : World) : (Instr.makeMap t none).run P w = .ok (.map (some w.heap.size)) (w.alloc (.map #[] 0)) := by
  rfl
theorem set_new (W : World) (o o' : Obj) : { W.alloc o with heap := (W.alloc o).heap.setIfInBounds W.heap.size o' } = W.alloc o' := by
  simp only [World.alloc]
  congr 1
  apply Array.ext'
  simp [Array.setIfInBounds, Array.toList_push]
theorem insert_new {P : Program} {ops : Array Oper} {Q : Exit → Act → World → Prop} {o : Oper} {rest : List Oper} {a : Act} (hgd : o.guard = none) {t e : TypeId} {m k x : Operand} (ho : o.op = .insert t m k x) (W : World) (es : Array MapEntry) (clk : Nat) (kv : Int) (v : Value)
    (hm : a.eval m = .map (some W.heap.size)) (hk : a.eval k = .int .i64 kv) (hx : a.eval x = v) (hu : P.underlying t = some (.map 3 e)) (h3 : P.underlying 3 = some (.int .i64)) (hf : Instr.findNow (.int .i64) (.int .i64 kv) es.toList 0 = some none)
    (h : wpList P ops Q rest (a.put o.dst undef) (W.alloc (.map (es.push ⟨.int .i64 kv, v, clk⟩) (clk + 1)))) : wpList P ops Q (o :: rest) a (W.alloc (.map es clk)) := by
  refine step_skip hgd ?_ h
  have hg : (W.alloc (.map es clk)).heap[W.heap.size]? = some (.map es clk) := heap_alloc_new W _
  unfold execOp
  simp only [ho, hm, hk, hx]
  have hkey : IsKey (.int .i64) (.int .i64 kv) := by simp [IsKey]
  simp [Instr.mapUpdate, run_underlying hu, MapKept.run_getObj_map hg, run_checkKey h3 hkey, run_findKey h3 hf, MapKept.run_setObj_map _ hg, Result.andThen]
  exact set_new W _ _
def shapeV (t n : Bool) (a : Int) (b o : Bool) : Value := .agg #[.bool t, .bool n, .int .i64 a, .bool b, .bool o]
def shapeEs : List MapEntry := [⟨.int .i64 1, shapeV true true 1 false false, 0⟩, ⟨.int .i64 2, shapeV false true 1 false false, 1⟩, ⟨.int .i64 3, shapeV false true 2 false false, 2⟩, ⟨.int .i64 4, shapeV false false 1 true true, 3⟩, ⟨.int .i64 5, shapeV false false 1 true false, 4⟩, ⟨.int .i64 6, shapeV false false 0 false false, 5⟩, ⟨.int .i64 7, shapeV false false 0 false false, 6⟩, ⟨.int .i64 8, shapeV false false 1 false false, 7⟩, ⟨.int .i64 9, shapeV false false 1 false false, 8⟩, ⟨.int .i64 10, shapeV false false 1 false false, 9⟩]
theorem gate_insert {P : Program} {ops : Array Oper} {Q : Exit → Act → World → Prop} {o : Oper} {rest : List Oper} {a : Act} {w : World} {t : TypeId} {m k x : Operand} (_h : o.op = .insert t m k x) (h : wpList P ops Q (o :: rest) a w) : wpList P ops Q (o :: rest) a w := h
set_option maxHeartbeats 2000000 in
theorem shapes_calls (w : World) :
    Calls Tryd.prog 74 #[] w fun e w' => ∃ b, e = .returned (.map (some b)) ∧ w'.heap[b]? = some (.map shapeEs.toArray 10) ∧ w.heap.size ≤ b ∧ Below w.heap.size w w' := by
  have hu := Tryd.underlying120
  have h3 := Tryd.underlying3
  have hmk := fun w => run_makeMap_new Tryd.prog 120 w
  go_enter Tryd.func74, Tryd.ntmps74
  obtain ⟨W, hW⟩ : ∃ W, W = w.alloc (.cells #[.bool false, .bool false, .int .i64 1, .bool false, .bool false] 118) := ⟨_, rfl⟩
  have HW := Aside0.mk hW
  clear hW
  have HS : ∀ v : Value, v = .map (some (w.heap.size + 1)) → v = .map (some (w.alloc (.cells #[.bool false, .bool false, .int .i64 1, .bool false, .bool false] 118)).heap.size) := fun v h => by rw [h]; simp
  go_wp2_with (first
    | ((with_reducible refine gate_insert rfl ?_); refine insert_new rfl rfl (w.alloc (.cells #[.bool false, .bool false, .int .i64 1, .bool false, .bool false] 118)) _ _ _ _ (by first | rfl | exact HS _ rfl) rfl rfl Tryd.underlying120 Tryd.underlying3 rfl ?_))
  go_ret
  exact ⟨_, rfl, heap_alloc_new _ _, by simp, ((Below.refl _ w).alloc (Nat.le_refl _) _).alloc (by simp) _⟩
theorem shape_at {b : Nat} {W : World} (hb : W.heap[b]? = some (.map shapeEs.toArray 10)) {k : Int} {i : Nat} {v : Value} (hf : Instr.findNow (.int .i64) (.int .i64 k) shapeEs 0 = some (some (i, v))) :
    (Instr.lookup 120 (.map (some b)) (.int .i64 k) true).run Tryd.prog W = .ok (.tuple #[v, .bool true]) W := by
  have hu := Tryd.underlying120
  have h3 := Tryd.underlying3
  have hkey : IsKey (.int .i64) (.int .i64 k) := by simp [IsKey]
  have hf' : Instr.findNow (.int .i64) (.int .i64 k) shapeEs.toArray.toList 0 = some (some (i, v)) := hf
  simp [Instr.lookup, run_underlying hu, MapKept.run_getObj_map hb, run_checkKey h3 hkey, run_findKey h3 hf', Result.andThen]
end Go.Proofs.YtijpghipfopplaaDoor.PDe
namespace Go.Proofs.YtijpghipfopplaaDoor.PDe
open Go.RowKit Go.Proofs.YtijpghipfopplaaDoorW.PrintWords Go.Proofs.YtijpghipfopplaaDoor.Gen

set_option maxHeartbeats 2000000 in
theorem closure76 (x : Ex) (w : World) (cs : List Value) (hK : kE.K w x cs) :
    Calls Tryd.prog 76 #[.agg cs.toArray] w fun e w' => e = .returned (.bool (!x.fits 100)) ∧ Below w.heap.size w w' := by
  have hu24 := Tryd.underlying24
  obtain ⟨A, c, rfl, hc, hC⟩ := kE_open hK
  have hcall : ∀ w', Below w.heap.size w w' → Calls Tryd.prog 77 #[.agg #[.int .i64 x.kind, .int .i64 x.op, .int .i64 x.n, .string x.nm, .slice A x.args.length c], .int .i64 100] w' fun e w'' => e = .returned (.bool (x.fits 100)) ∧ Below w'.heap.size w' w'' :=
    fun w' hb => expr_calls x 100 (by omega) (by omega) w' _ (kE.K_below hb hK)
  have HC := Aside0.mk hcall
  clear hcall hK hC
  generalize x.kind = K at *; generalize x.op = O at *; generalize x.n = N at *; generalize x.nm = S at *; generalize x.args.length = L at *
  generalize x.fits 100 = r at *
  go_enter Tryd.func76, Tryd.ntmps76
  go_wp2_with (first | (go_at_call 77; refine (HC.out _ ((Below.refl _ w).alloc (Nat.le_refl _) _)).mono ?_; rintro e w1 ⟨rfl, hb1⟩))
  go_ret
  exact ⟨rfl, (one_row hb1).2⟩
/-- All of them are right: so answers the call in tree.stmt. -/
theorem args_calls (l : List Ex) (A : Option Addr) (c : Nat) (w : World) (h : Kd.C kE w A l.length l) :
    Calls Tryd.prog 75 #[.slice A l.length c, .func (.func 76) #[] #[]] w fun e w' => e = .returned (.bool (l.any fun e => !e.fits 100)) ∧ Below w.heap.size w w' :=
  containsFunc Tryd.cfE kE 5 rfl Tryd.isAgg24 Tryd.sizeOf24 (fun e => !e.fits 100) 76 #[] (fun args w => by kernel_rfl) A c l w h
    fun W y cs hy hW hKy => (closure76 y W cs hKy).mono fun e w' h => ⟨h.1, hW.trans (h.2.mono hW.size)⟩
def stmtOk (b : Bl) : Prop := ∀ (m : Int) (_ : 0 ≤ m) (_ : m ≤ 1000) (w : World) (cs : List Value), kS.K w b cs →
  Calls Tryd.prog 62 #[.agg cs.toArray, .int .i64 m] w fun e w' => e = .returned (.bool (b.fits m)) ∧ Below w.heap.size w w'
def stmtsOk (b : Bl) : Prop := ∀ (m : Int) (_ : 0 ≤ m) (_ : m ≤ 1000) (A : Option Addr) (c : Nat) (w : World), Kd.C kS w A b.lst.length b.lst →
  Calls Tryd.prog 40 #[.slice A b.lst.length c, .int .i64 m] w fun e w' => e = .returned (.bool (b.fits m)) ∧ Below w.heap.size w w'
set_option maxHeartbeats 2000000 in
theorem closure61 (b : Bl) (ih : stmtOk b) (m : Int) (h0 : 0 ≤ m) (h1 : m ≤ 1000) (g : Nat) (w : World) (cs : List Value) (hK : kS.K w b cs) (hm : w.cell? ⟨g, 0, none⟩ = some (.int .i64 m)) :
    Calls Tryd.prog 61 #[.agg cs.toArray, .pointer (some ⟨g, 0, none⟩)] w fun e w' => e = .returned (.bool (!b.fits m)) ∧ Below w.heap.size w w' := by
  have hu27 := Tryd.underlying27
  obtain ⟨A3, c3, A4, c4, A5, c5, rfl, _⟩ := kS_open hK
  have hcall : ∀ w', Below w.heap.size w w' → Calls Tryd.prog 62 #[.agg #[.int .i64 b.kind, .int .i64 0, .string b.nm, .slice A3 b.args.length c3, .slice A4 b.th.lst.length c4, .slice A5 b.el.lst.length c5], .int .i64 m] w' fun e w'' => e = .returned (.bool (b.fits m)) ∧ Below w'.heap.size w' w'' :=
    fun w' hb => ih m h0 h1 w' _ (kS.K_below hb hK)
  have hbk : g < w.heap.size := block_lt_of_cell hm
  have HC := Aside0.mk hcall
  clear hcall ih hK
  generalize b.kind = K at *; generalize b.nm = S at *; generalize b.args.length = L3 at *; generalize b.th.lst.length = L4 at *; generalize b.el.lst.length = L5 at *
  generalize b.fits m = r at *
  go_enter Tryd.func61, Tryd.ntmps61
  have hm2 : (w.alloc (.cells #[.int .i64 K, .int .i64 0, .string S, .slice A3 L3 c3, .slice A4 L4 c4, .slice A5 L5 c5] 27)).cell? ⟨g, 0, none⟩ = some (.int .i64 m) := (((Below.refl _ w).alloc (Nat.le_refl _) _).cell (p := ⟨g, 0, none⟩) hbk).trans hm
  go_wp2_with (first | (go_at_call 62; refine (HC.out _ ((Below.refl _ w).alloc (Nat.le_refl _) _)).mono ?_; rintro e w1 ⟨rfl, hb1⟩))
  go_ret
  exact ⟨rfl, (one_row hb1).2⟩
set_option maxHeartbeats 2000000 in
theorem stmts_step (b : Bl) (ih : b ≠ .nil → stmtOk b) : stmtsOk b := by
  intro m h0 h1 A c w hC
  have hcont : ∀ (w1 : World) (g : Nat), Below w.heap.size w w1 → w1.cell? ⟨g, 0, none⟩ = some (.int .i64 m) →
      Calls Tryd.prog 60 #[.slice A b.lst.length c, .func (.func 61) #[] #[.pointer (some ⟨g, 0, none⟩)]] w1 fun e w' => e = .returned (.bool (b.lst.any fun s => !s.fits m)) ∧ Below w1.heap.size w1 w' := by
    intro w1 g hb hcell
    refine containsFunc Tryd.cfS kS 6 rfl Tryd.isAgg27 Tryd.sizeOf27 (fun s => !s.fits m) 61 #[.pointer (some ⟨g, 0, none⟩)] (fun args w => by kernel_rfl) A c b.lst w1 (Kd.C_below hC hb) ?_
    intro W y cs hy hW hKy
    have hyb : y = b ∧ b ≠ .nil := by cases b <;> simp [Bl.lst] at hy ⊢ <;> exact hy
    rw [hyb.1] at hKy ⊢
    exact (closure61 b (ih hyb.2) m h0 h1 g W cs hKy ((hW.cell (p := ⟨g, 0, none⟩) (block_lt_of_cell hcell)).trans hcell)).mono fun e w' h => ⟨h.1, hW.trans (h.2.mono hW.size)⟩
  rw [← Bl.lst_any]
  have HCONT := Aside0.mk hcont
  clear hcont ih hC
  generalize (b.lst.any fun s => !s.fits m) = q at *
  generalize b.lst.length = L at *
  go_enter Tryd.func40, Tryd.ntmps40
  go_wp2_with (first
    | (go_at_call 60; refine (HCONT.out _ _ ((Below.refl _ w).alloc (Nat.le_refl _) _) (by simp)).mono ?_; rintro e w2 ⟨rfl, hb2⟩))
  go_ret
  exact ⟨rfl, (one_row hb2).2⟩
end Go.Proofs.YtijpghipfopplaaDoor.PDe
namespace Go.Proofs.YtijpghipfopplaaDoor.PDe
open Go.RowKit Go.Proofs.YtijpghipfopplaaDoorW.PrintWords Go.Proofs.YtijpghipfopplaaDoor.Gen

theorem looks {b : Nat} {W : World} (hb : W.heap[b]? = some (.map shapeEs.toArray 10)) {k : Int} {i : Nat} {v : Value} (hf : Instr.findNow (.int .i64) (.int .i64 k) shapeEs 0 = some (some (i, v))) :
    ((Instr.lookup 120 (.map (some b)) (.int .i64 k) true).run Tryd.prog W = .ok (.tuple #[v, .bool true]) W) ∧
    ((Instr.lookup 120 (.map (some b)) (.int .i64 k) true).run Tryd.prog W.drew = .ok (.tuple #[v, .bool true]) W.drew) ∧
    (∀ o, (Instr.lookup 120 (.map (some b)) (.int .i64 k) true).run Tryd.prog (W.alloc o) = .ok (.tuple #[v, .bool true]) (W.alloc o)) ∧
    (∀ o, (Instr.lookup 120 (.map (some b)) (.int .i64 k) true).run Tryd.prog (W.drew.alloc o) = .ok (.tuple #[v, .bool true]) (W.drew.alloc o)) ∧
    (∀ o, (Instr.lookup 120 (.map (some b)) (.int .i64 k) true).run Tryd.prog (W.alloc o).drew = .ok (.tuple #[v, .bool true]) (W.alloc o).drew) ∧
    (∀ o, (Instr.lookup 120 (.map (some b)) (.int .i64 k) true).run Tryd.prog (W.drew.alloc o).drew = .ok (.tuple #[v, .bool true]) (W.drew.alloc o).drew) := by
  have hbl : b < W.heap.size := (Array.getElem?_eq_some_iff.1 hb).1
  have hd : W.drew.heap[b]? = some (.map shapeEs.toArray 10) := hb
  have ha : ∀ o, (W.alloc o).heap[b]? = some (.map shapeEs.toArray 10) := fun o => (Go.heap_alloc_old W o hbl).trans hb
  have hda : ∀ o, (W.drew.alloc o).heap[b]? = some (.map shapeEs.toArray 10) := fun o => (Go.heap_alloc_old W.drew o hbl).trans hb
  exact ⟨shape_at hb hf, shape_at hd hf, fun o => shape_at (ha o) hf, fun o => shape_at (hda o) hf, fun o => shape_at (W := (W.alloc o).drew) (ha o) hf, fun o => shape_at (W := (W.drew.alloc o).drew) (hda o) hf⟩
theorem drew_size (W : World) : W.drew.heap.size = W.heap.size := rfl
/-- A row of five cells that was new ahead of a call. -/
theorem five {H : Nat} {W0 w1 : World} {a b c d e : Value} {t : TypeId} (h0 : W0.heap.size = H) (hb : Below (W0.alloc (.cells #[a, b, c, d, e] t)).drew.heap.size (W0.alloc (.cells #[a, b, c, d, e] t)).drew w1) :
    (w1.cell? ⟨H, 0, none⟩ = some a ∧ w1.cell? ⟨H, 1, none⟩ = some b ∧ w1.cell? ⟨H, 2, none⟩ = some c ∧ w1.cell? ⟨H, 3, none⟩ = some d ∧ w1.cell? ⟨H, 4, none⟩ = some e) ∧
    (w1.frozen? ⟨H, 0, none⟩ = false ∧ w1.frozen? ⟨H, 1, none⟩ = false ∧ w1.frozen? ⟨H, 2, none⟩ = false ∧ w1.frozen? ⟨H, 3, none⟩ = false ∧ w1.frozen? ⟨H, 4, none⟩ = false) := by
  subst h0
  have hg : w1.heap[W0.heap.size]? = some (.cells #[a, b, c, d, e] t) := (hb.block _ (by simp)).trans (heap_alloc_new W0 _)
  exact ⟨⟨cell_of_row _ _ 0 _ _ _ hg, cell_of_row _ _ 1 _ _ _ hg, cell_of_row _ _ 2 _ _ _ hg, cell_of_row _ _ 3 _ _ _ hg, cell_of_row _ _ 4 _ _ _ hg⟩,
    ⟨frozen_of_row _ _ 0 _ _ hg, frozen_of_row _ _ 1 _ _ hg, frozen_of_row _ _ 2 _ _ hg, frozen_of_row _ _ 3 _ _ hg, frozen_of_row _ _ 4 _ _ hg⟩⟩
theorem shapes_after (W0 : World) (a b c d e : Value) (t : TypeId) :
    Calls Tryd.prog 74 #[] (W0.alloc (.cells #[a, b, c, d, e] t)).drew fun r w' => (∃ g, r = .returned (.map (some g)) ∧ w'.heap[g]? = some (.map shapeEs.toArray 10) ∧ W0.heap.size + 1 ≤ g ∧ Below (W0.heap.size + 1) (W0.alloc (.cells #[a, b, c, d, e] t)).drew w') ∧
      (w'.cell? ⟨W0.heap.size, 0, none⟩ = some a ∧ w'.cell? ⟨W0.heap.size, 1, none⟩ = some b ∧ w'.cell? ⟨W0.heap.size, 2, none⟩ = some c ∧ w'.cell? ⟨W0.heap.size, 3, none⟩ = some d ∧ w'.cell? ⟨W0.heap.size, 4, none⟩ = some e) ∧
      (w'.frozen? ⟨W0.heap.size, 0, none⟩ = false ∧ w'.frozen? ⟨W0.heap.size, 1, none⟩ = false ∧ w'.frozen? ⟨W0.heap.size, 2, none⟩ = false ∧ w'.frozen? ⟨W0.heap.size, 3, none⟩ = false ∧ w'.frozen? ⟨W0.heap.size, 4, none⟩ = false) := by
  refine (shapes_calls _).mono ?_
  rintro r w1 ⟨g, rfl, hb, hb0, hb1⟩
  have e1 : (W0.alloc (.cells #[a, b, c, d, e] t)).drew.heap.size = W0.heap.size + 1 := by simp
  have h := five (H := W0.heap.size) rfl hb1
  rw [e1] at hb0
  exact ⟨⟨g, rfl, hb, hb0, by rw [e1] at hb1; exact hb1⟩, h⟩
/-- What lies in the two rows that tree.stmt reads. -/
structure Rows2 (B H : Nat) (c0 c1 c2 c3 c4 c5 a b c d e : Value) (w0 w : World) : Prop where
  s0 : w.cell? ⟨B, 0, none⟩ = some c0
  s1 : w.cell? ⟨B, 1, none⟩ = some c1
  s2 : w.cell? ⟨B, 2, none⟩ = some c2
  s3 : w.cell? ⟨B, 3, none⟩ = some c3
  s4 : w.cell? ⟨B, 4, none⟩ = some c4
  s5 : w.cell? ⟨B, 5, none⟩ = some c5
  h0 : w.cell? ⟨H, 0, none⟩ = some a
  h1 : w.cell? ⟨H, 1, none⟩ = some b
  h2 : w.cell? ⟨H, 2, none⟩ = some c
  h3 : w.cell? ⟨H, 3, none⟩ = some d
  h4 : w.cell? ⟨H, 4, none⟩ = some e
  bl : Below B w0 w
theorem Rows2.alloc {B : Nat} {c0 c1 c2 c3 c4 c5 a b c d e : Value} {t : TypeId} {w0 w : World} (hb : Below B w0 w) (hB : B < w.heap.size) (f0 : w.cell? ⟨B, 0, none⟩ = some c0) (f1 : w.cell? ⟨B, 1, none⟩ = some c1) (f2 : w.cell? ⟨B, 2, none⟩ = some c2) (f3 : w.cell? ⟨B, 3, none⟩ = some c3) (f4 : w.cell? ⟨B, 4, none⟩ = some c4) (f5 : w.cell? ⟨B, 5, none⟩ = some c5) :
    Rows2 B w.heap.size c0 c1 c2 c3 c4 c5 a b c d e w0 (w.alloc (.cells #[a, b, c, d, e] t)) := by
  have hk : ∀ j v, w.cell? ⟨B, j, none⟩ = some v → (w.alloc (.cells #[a, b, c, d, e] t)).cell? ⟨B, j, none⟩ = some v := fun j v h => (World.cell?_alloc_some w _ _ (by rw [h]; rfl)).trans h
  have hg := heap_alloc_new w (.cells #[a, b, c, d, e] t)
  exact ⟨hk _ _ f0, hk _ _ f1, hk _ _ f2, hk _ _ f3, hk _ _ f4, hk _ _ f5, cell_of_row _ _ 0 _ _ _ hg, cell_of_row _ _ 1 _ _ _ hg, cell_of_row _ _ 2 _ _ _ hg, cell_of_row _ _ 3 _ _ _ hg, cell_of_row _ _ 4 _ _ _ hg, hb.alloc (by omega) _⟩
theorem Rows2.stored {B H : Nat} {c0 c1 c2 c3 c4 c5 a b c d e a' b' c' d' e' : Value} {w0 w : World} (hb : Below B w0 w) (hB : B < H) (f0 : w.cell? ⟨B, 0, none⟩ = some c0) (f1 : w.cell? ⟨B, 1, none⟩ = some c1) (f2 : w.cell? ⟨B, 2, none⟩ = some c2) (f3 : w.cell? ⟨B, 3, none⟩ = some c3) (f4 : w.cell? ⟨B, 4, none⟩ = some c4) (f5 : w.cell? ⟨B, 5, none⟩ = some c5)
    (x0 : w.cell? ⟨H, 0, none⟩ = some a') (x1 : w.cell? ⟨H, 1, none⟩ = some b') (x2 : w.cell? ⟨H, 2, none⟩ = some c') (x3 : w.cell? ⟨H, 3, none⟩ = some d') (x4 : w.cell? ⟨H, 4, none⟩ = some e') :
    Rows2 B H c0 c1 c2 c3 c4 c5 a b c d e w0 (((((w.setCell ⟨H, 0, none⟩ a).setCell ⟨H, 1, none⟩ b).setCell ⟨H, 2, none⟩ c).setCell ⟨H, 3, none⟩ d).setCell ⟨H, 4, none⟩ e) := by
  have hne : H ≠ B := by omega
  have hk : ∀ j v, w.cell? ⟨B, j, none⟩ = some v → (((((w.setCell ⟨H, 0, none⟩ a).setCell ⟨H, 1, none⟩ b).setCell ⟨H, 2, none⟩ c).setCell ⟨H, 3, none⟩ d).setCell ⟨H, 4, none⟩ e).cell? ⟨B, j, none⟩ = some v := by
    intro j v h
    rw [World.cell?_setCell_far _ _ _ _ hne, World.cell?_setCell_far _ _ _ _ hne, World.cell?_setCell_far _ _ _ _ hne, World.cell?_setCell_far _ _ _ _ hne, World.cell?_setCell_far _ _ _ _ hne, h]
  have ho : ∀ (w : World) (i j : Nat) (u : Value), i ≠ j → (w.setCell ⟨H, i, none⟩ u).cell? ⟨H, j, none⟩ = w.cell? ⟨H, j, none⟩ := fun w i j u h => World.cell?_setCell_other _ _ _ _ (by intro e; injection e with _ e2; exact h e2)
  have hs : ∀ (w : World) (i : Nat) (u v : Value), w.cell? ⟨H, i, none⟩ = some v → (w.setCell ⟨H, i, none⟩ u).cell? ⟨H, i, none⟩ = some u := fun w i u v h => World.cell?_setCell_same' _ _ _ (by rw [h]; rfl)
  refine ⟨hk _ _ f0, hk _ _ f1, hk _ _ f2, hk _ _ f3, hk _ _ f4, hk _ _ f5, ?_, ?_, ?_, ?_, ?_, ?_⟩
  · rw [ho _ _ _ _ (by decide), ho _ _ _ _ (by decide), ho _ _ _ _ (by decide), ho _ _ _ _ (by decide)]; exact hs _ _ _ _ x0
  · rw [ho _ _ _ _ (by decide), ho _ _ _ _ (by decide), ho _ _ _ _ (by decide)]; exact hs _ _ _ _ (by rw [ho _ _ _ _ (by decide)]; exact x1)
  · rw [ho _ _ _ _ (by decide), ho _ _ _ _ (by decide)]; exact hs _ _ _ _ (by rw [ho _ _ _ _ (by decide), ho _ _ _ _ (by decide)]; exact x2)
  · rw [ho _ _ _ _ (by decide)]; exact hs _ _ _ _ (by rw [ho _ _ _ _ (by decide), ho _ _ _ _ (by decide), ho _ _ _ _ (by decide)]; exact x3)
  · exact hs _ _ _ _ (by rw [ho _ _ _ _ (by decide), ho _ _ _ _ (by decide), ho _ _ _ _ (by decide), ho _ _ _ _ (by decide)]; exact x4)
  · exact ((((hb.setCell (by show B ≤ H; omega) _).setCell (by show B ≤ H; omega) _).setCell (by show B ≤ H; omega) _).setCell (by show B ≤ H; omega) _).setCell (by show B ≤ H; omega) _
theorem Rows2.keep {B H : Nat} {c0 c1 c2 c3 c4 c5 a b c d e : Value} {w0 w w' : World} (h : Rows2 B H c0 c1 c2 c3 c4 c5 a b c d e w0 w) (hb : Below w.heap.size w w') : Rows2 B H c0 c1 c2 c3 c4 c5 a b c d e w0 w' := by
  have hB : B < w.heap.size := block_lt_of_cell h.s0
  have hH : H < w.heap.size := block_lt_of_cell h.h0
  exact ⟨(hb.cell (p := ⟨B, 0, none⟩) hB).trans h.s0, (hb.cell (p := ⟨B, 1, none⟩) hB).trans h.s1, (hb.cell (p := ⟨B, 2, none⟩) hB).trans h.s2, (hb.cell (p := ⟨B, 3, none⟩) hB).trans h.s3, (hb.cell (p := ⟨B, 4, none⟩) hB).trans h.s4, (hb.cell (p := ⟨B, 5, none⟩) hB).trans h.s5,
    (hb.cell (p := ⟨H, 0, none⟩) hH).trans h.h0, (hb.cell (p := ⟨H, 1, none⟩) hH).trans h.h1, (hb.cell (p := ⟨H, 2, none⟩) hH).trans h.h2, (hb.cell (p := ⟨H, 3, none⟩) hH).trans h.h3, (hb.cell (p := ⟨H, 4, none⟩) hH).trans h.h4, h.bl.trans (hb.mono (by omega))⟩
/-- What tree.stmt does behind its first statement. -/
noncomputable def rest62 : Code := match Tryd.f62.body with
  | some (.seq _ (.seq _ r)) => r
  | _ => .skip
theorem abs_world {p : Act → World → Prop} {a : Act} {w : World} (F : World → Prop) (hF : F w) (h : ∀ w', F w' → p a w') : p a w := h w hF
end Go.Proofs.YtijpghipfopplaaDoor.PDe
