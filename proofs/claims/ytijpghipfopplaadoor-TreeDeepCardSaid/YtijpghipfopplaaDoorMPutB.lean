/- (*printer).expr at the expressions that occur. (*printer).line. (*printer).stmt at the statements that occur, over blocks whose printing is given. (*printer).block and stmt at all statements that occur. tree.Print at the programs that occur. -/
import Derived.Test.YtijpghipfopplaaDoorMPutA
import Derived.IntWalk
set_option linter.unusedVariables false
set_option linter.unusedSimpArgs false
namespace Go.Proofs.YtijpghipfopplaaDoor.PDe
open Go.RowKit Go.Proofs.YtijpghipfopplaaDoorW.PrintWords

/-- put's contract at a row that was just laid, as one statement for the walk. -/
def Puts (w0 : World) (g : Nat) (acc : List UInt8) (tabs : Int) (ps : List Pt) (vs : List Value) (n : Nat) (T : List UInt8) (w : World) : Prop :=
  ∀ w1 B, Wrote w0 g acc tabs [] w w1 → w1.heap.size = B → Calls Tryd.prog 10 #[.pointer (some ⟨g, 0, none⟩), .slice (some ⟨B, 0, none⟩) n n] (w1.alloc (.cells vs.toArray 20)) fun e w' => e = .returned (.tuple #[]) ∧ Wrote w0 g acc tabs T w w' ∧ Lib.OthersKept 5 (some g) w1 w'
theorem puts_of (w0 : World) (g : Nat) (acc : List UInt8) (tabs : Int) (ps : List Pt) (vs : List Value) (n : Nat) (T : List UInt8) (w : World) (hok : ∀ p ∈ ps, p.ok w0 g) (hn : ps.length = n) (hmax : n ≤ 100) (hvs : PtVs w0 ps vs) (hT : texts ps = T) (hlen : acc.length + T.length ≤ LIM) :
    Puts w0 g acc tabs ps vs n T w := by
  intro w1 B h hB
  subst hT
  subst hB
  exact (put_new w0 g ps hok acc tabs w1 n n vs hn hmax hvs h.ready.1 h.ready.2 hlen).mono fun e w' k => ⟨k.1, h.after k.2, k.2.2.2.1⟩
set_option maxHeartbeats 2000000 in
set_option maxRecDepth 100000 in
theorem exp_num (w0 : World) (g : Nat) (n : Nat) : ePut w0 g (.num n) := by
  intro acc tabs w cs hK hb hp hlen
  have hu24 := Tryd.underlying24
  obtain ⟨A, c, rfl, _⟩ := kE_open hK
  have HP := Aside0.mk (puts_of w0 g acc tabs [.num n] [.iface 3 (.int .i64 (dig n))] 1 (digT n) w (by simp [Pt.ok]) rfl (by decide) ⟨rfl, trivial⟩ (by simp [texts, Pt.text]) hlen)
  have HQQ := Aside0.mk (fun w1 h => Wrote.quiet (w' := w1) hb hp h)
  clear hK hb hp hlen
  show Calls Tryd.prog 29 #[.pointer (some ⟨g, 0, none⟩), .agg #[.int .i64 1, .int .i64 0, .int .i64 (dig n), .string ⟨#[]⟩, .slice A 0 c]] w fun e w' => e = .returned (.tuple #[]) ∧ Wrote w0 g acc tabs (digT n) w w'
  generalize dig n = D at *
  generalize digT n = T at *
  go_enter Tryd.func29, Tryd.ntmps29
  go_wp2_with (first | (go_at_call 10; refine (HP.out _ _ (HQQ.out _ ((Below.refl _ w).alloc (Nat.le_refl _) _)) (by simp)).mono ?_; rintro e w2 ⟨rfl, hw2, _⟩))
  go_end0
  exact ⟨rfl, hw2⟩
set_option maxHeartbeats 2000000 in
set_option maxRecDepth 100000 in
theorem exp_var (w0 : World) (g : Nat) : ePut w0 g .var := by
  intro acc tabs w cs hK hb hp hlen
  have hu24 := Tryd.underlying24
  obtain ⟨A, c, rfl, _⟩ := kE_open hK
  have HP := Aside0.mk (puts_of w0 g acc tabs [.str [121]] [.iface 9 (.string ⟨#[121]⟩)] 1 [121] w (by simp [Pt.ok]) rfl (by decide) ⟨rfl, trivial⟩ (by simp [texts, Pt.text]) hlen)
  have HQQ := Aside0.mk (fun w1 h => Wrote.quiet (w' := w1) hb hp h)
  clear hK hb hp hlen
  show Calls Tryd.prog 29 #[.pointer (some ⟨g, 0, none⟩), .agg #[.int .i64 3, .int .i64 0, .int .i64 0, .string ⟨#[121]⟩, .slice A 0 c]] w fun e w' => e = .returned (.tuple #[]) ∧ Wrote w0 g acc tabs [121] w w'
  go_enter Tryd.func29, Tryd.ntmps29
  go_wp2_with (first | (go_at_call 10; refine (HP.out _ _ (HQQ.out _ ((Below.refl _ w).alloc (Nat.le_refl _) _)) (by simp)).mono ?_; rintro e w2 ⟨rfl, hw2, _⟩))
  go_end0
  exact ⟨rfl, hw2⟩
/-- An expression's parts, as they lie behind a slice: in each later world their cells are as they were. -/
theorem parts_at {w0 : World} {A : Option Addr} {xs : List Ex} (h : Kd.C kE w0 A xs.length xs) (i : Nat) (x : Ex) (hx : xs[i]? = some x) :
    ∃ ad cs, A = some ad ∧ kE.K w0 x cs ∧ ∀ w, Below w0.heap.size w0 w → ∀ j v, cs[j]? = some v → w.cell? ((ad.add (i * 5)).add j) = some v := by
  obtain ⟨h1, h2, h3⟩ := h
  have hi : i < xs.length := (List.getElem?_eq_some_iff.1 hx).1
  obtain ⟨ad, hA, hcell⟩ := h3 (by omega)
  obtain ⟨cs, hl, hK, hcc⟩ := hcell i x hx
  refine ⟨ad, cs, hA, hK, fun w hb j v hj => ?_⟩
  rw [Addr.add_add]
  exact pw_cell_below hb (hcc j v hj)
/-- Five cells from an address on. -/
def Five (ad : Addr) (a b c d e : Value) (w : World) : Prop := w.cell? ad = some a ∧ w.cell? ⟨ad.block, ad.off + 1, none⟩ = some b ∧ w.cell? ⟨ad.block, ad.off + 2, none⟩ = some c ∧ w.cell? ⟨ad.block, ad.off + 3, none⟩ = some d ∧ w.cell? ⟨ad.block, ad.off + 4, none⟩ = some e
theorem five_at {w : World} {ad : Addr} {a b c d e : Value} (h : ∀ j v, [a, b, c, d, e][j]? = some v → w.cell? (ad.add j) = some v) : Five ad a b c d e w :=
  ⟨h 0 _ rfl, h 1 _ rfl, h 2 _ rfl, h 3 _ rfl, h 4 _ rfl⟩
set_option maxHeartbeats 2000000 in
set_option maxRecDepth 100000 in
theorem exp_neg (w0 : World) (g : Nat) (e : Ex) (hg : w0.heap.size = g) (hE : ePut w0 g e) : ePut w0 g (.neg e) := by
  intro acc tabs w cs hK hb hp hlen
  have hgs : g < w.heap.size := by obtain ⟨_, _, _, hg, _⟩ := hp; exact (Array.getElem?_eq_some_iff.1 hg).1
  have hu24 := Tryd.underlying24
  have hu73 := Tryd.underlying73
  obtain ⟨A, c, rfl, hc, hC⟩ := kE_open hK
  obtain ⟨ad, ecs, rfl, hKe, hld⟩ := parts_at hC 0 e rfl
  obtain ⟨A2, c2, rfl, _⟩ := kE_open hKe
  rw [hg] at hld
  have HSG := fun w => sign_op 20 _ _ (.inr (.inr (.inr ⟨rfl, rfl, rfl⟩))) w
  have HP := Aside0.mk (puts_of w0 g acc tabs [.str [45], .inner e 11] [.iface 9 (.string ⟨#[45]⟩), .iface 73 (.agg #[.int .i64 e.kind, .int .i64 e.op, .int .i64 e.n, .string e.nm, .slice A2 e.args.length c2, .int .i64 11])] 2 ([45] ++ e.part 11) w (by
    intro p hp
    simp only [List.mem_cons, List.not_mem_nil, or_false] at hp
    rcases hp with rfl | rfl
    · trivial
    · exact inner_calls w0 g e 11 (by decide) (by decide) hE) rfl (by decide) ⟨rfl, ⟨_, hKe, rfl⟩, trivial⟩ (by simp [texts, Pt.text]) hlen)
  have HQQ := Aside0.mk (fun w1 h => Wrote.quiet (w' := w1) hb hp h)
  have HLE : Aside0 (∀ w1, Below g w0 w1 → Five ad (.int .i64 e.kind) (.int .i64 e.op) (.int .i64 e.n) (.string e.nm) (.slice A2 e.args.length c2) w1) := ⟨fun w1 h => five_at (hld w1 h)⟩
  have HLD : Aside0 (∀ w1, Below w.heap.size w w1 → Five ad (.int .i64 e.kind) (.int .i64 e.op) (.int .i64 e.n) (.string e.nm) (.slice A2 e.args.length c2) w1) := ⟨fun w1 h => five_at (hld w1 (hb.trans (h.mono (Nat.le_of_lt hgs))))⟩
  clear hK hb hp hlen hC hKe hld hE hg hc
  show Calls Tryd.prog 29 #[.pointer (some ⟨g, 0, none⟩), .agg #[.int .i64 4, .int .i64 20, .int .i64 0, .string ⟨#[]⟩, .slice (some ad) 1 c]] w fun r w' => r = .returned (.tuple #[]) ∧ Wrote w0 g acc tabs ([45] ++ e.part 11) w w'
  generalize e.kind = K at *; generalize e.op = O at *; generalize e.n = N at *; generalize e.nm = S at *; generalize e.args.length = L at *
  generalize e.part 11 = T at *
  go_enter Tryd.func29, Tryd.ntmps29
  go_wp2
  obtain ⟨W, hW⟩ : ∃ W, W = w.alloc (.cells #[.int .i64 4, .int .i64 20, .int .i64 0, .string ⟨#[]⟩, .slice (some ad) 1 c] 24) := ⟨_, rfl⟩
  rw [← hW]
  have HB : Below w.heap.size w W := by rw [hW]; exact (Below.refl _ w).alloc (Nat.le_refl _) _
  have hcell : ∀ j, W.cell? ⟨w.heap.size, j, none⟩ = (#[.int .i64 4, .int .i64 20, .int .i64 0, .string ⟨#[]⟩, .slice (some ad) 1 c] : Array Value)[j]? := fun j => by rw [hW]; exact cell_of_row _ _ _ _ _ _ (heap_alloc_new w _)
  have HROW : Aside0 (W.heap[w.heap.size]? = some (.cells #[.int .i64 4, .int .i64 20, .int .i64 0, .string ⟨#[]⟩, .slice (some ad) 1 c] 24 (0, 0))) := ⟨by rw [hW]; exact heap_alloc_new w _⟩
  have f0 := hcell 0; have f1 := hcell 1; have f2 := hcell 2; have f3 := hcell 3; have f4 := hcell 4
  clear hcell hW
  simp at f0 f1 f2 f3 f4
  have HBB := Aside0.mk HB
  clear HB
  have hlt : w.heap.size < W.heap.size := block_lt_of_cell f0
  obtain ⟨a0, a1, a2, a3, a4⟩ := HLD.out W HBB.out
  go_region_held3 (fun w' => w'.cell? ⟨w.heap.size, 1, none⟩ = some (.int .i64 20) ∧ w'.cell? ⟨w.heap.size, 4, none⟩ = some (.slice (some ad) 1 c) ∧
      w'.cell? ad = some (.int .i64 K) ∧ w'.cell? ⟨ad.block, ad.off + 1, none⟩ = some (.int .i64 O) ∧ w'.cell? ⟨ad.block, ad.off + 2, none⟩ = some (.int .i64 N) ∧ w'.cell? ⟨ad.block, ad.off + 3, none⟩ = some (.string S) ∧ w'.cell? ⟨ad.block, ad.off + 4, none⟩ = some (.slice A2 L c2)) (first | go_keep | exact ⟨x1, x4, y0, y1, y2, y3, y4⟩ | exact ⟨z1, z4, y0, y1, y2, y3, y4⟩)
      (first
        | (go_at_call 54; refine (HSG _).mono ?_; rintro e w1 ⟨rfl, hb1⟩; have x1 := (hb1.cell (p := ⟨w.heap.size, 1, none⟩) (by simp; omega)).trans f1; have x4 := (hb1.cell (p := ⟨w.heap.size, 4, none⟩) (by simp; omega)).trans f4; have B1 := HBB.out.drew.trans (hb1.mono (Nat.le_of_lt hlt)); have r1 := (hb1.block _ hlt).trans HROW.out; obtain ⟨y0, y1, y2, y3, y4⟩ := HLD.out w1 B1)
        | (go_at_call 10; refine (HP.out _ _ (HQQ.out _ B1) rfl).mono ?_; rintro e w2 ⟨rfl, hw2, hk2⟩; have r2 := hk2 _ _ r1 (fun e => absurd (Option.some.inj e) (by omega)) (fun c fz e => by injection e with _ e2 _; exact absurd e2 (by decide)); have z1 := cell_of_row _ _ 1 _ _ _ r2; have z4 := cell_of_row _ _ 4 _ _ _ r2; obtain ⟨y0, y1, y2, y3, y4⟩ := HLE.out w2 hw2.1))
  go_wp2
  exact bodyPost_ret (results_none rfl _ _ _) rfl ⟨rfl, hw2⟩
set_option maxHeartbeats 4000000 in
set_option maxRecDepth 100000 in
theorem exp_two (w0 : World) (g : Nat) (o : Nat) (e f : Ex) (hg : w0.heap.size = g) (hE : ePut w0 g e) (hF : ePut w0 g f) : ePut w0 g (.two o e f) := by
  intro acc tabs w cs hK hb hp hlen
  have hgs : g < w.heap.size := by obtain ⟨_, _, _, hg, _⟩ := hp; exact (Array.getElem?_eq_some_iff.1 hg).1
  have hu24 := Tryd.underlying24
  have hu73 := Tryd.underlying73
  have hlv := lvN_bd o
  obtain ⟨A, c, rfl, hc, hC⟩ := kE_open hK
  obtain ⟨ad, ecs, hA1, hKe, hld⟩ := parts_at hC 0 e rfl
  obtain ⟨ad', fcs, hA2, hKf, hlf⟩ := parts_at hC 1 f rfl
  subst hA1
  obtain rfl := Option.some.inj hA2
  obtain ⟨A2, c2, rfl, _⟩ := kE_open hKe
  obtain ⟨A3, c3, rfl, _⟩ := kE_open hKf
  rw [hg] at hld hlf
  have HLV := fun w => level_op (opI o) _ _ (isOp_of o) w
  have HSG := fun w => sign_op (opI o) _ _ (isOp_of o) w
  have HP := Aside0.mk (puts_of w0 g acc tabs [.inner e (lvN o), .str [32], .str (sgN o), .str [32], .inner f (lvN o + 1)] [.iface 73 (.agg #[.int .i64 e.kind, .int .i64 e.op, .int .i64 e.n, .string e.nm, .slice A2 e.args.length c2, .int .i64 (lvN o)]), .iface 9 (.string ⟨#[32]⟩), .iface 9 (.string ⟨(sgN o).toArray⟩), .iface 9 (.string ⟨#[32]⟩), .iface 73 (.agg #[.int .i64 f.kind, .int .i64 f.op, .int .i64 f.n, .string f.nm, .slice A3 f.args.length c3, .int .i64 (lvN o + 1)])] 5 (Ex.two o e f).text w (by
    intro p hp
    simp only [List.mem_cons, List.not_mem_nil, or_false] at hp
    rcases hp with rfl | rfl | rfl | rfl | rfl
    · exact inner_calls w0 g e _ (by omega) (by omega) hE
    · trivial
    · trivial
    · trivial
    · exact inner_calls w0 g f _ (by omega) (by omega) hF) rfl (by decide) ⟨⟨_, hKe, rfl⟩, rfl, rfl, rfl, ⟨_, hKf, rfl⟩, trivial⟩ (by simp [texts, Pt.text, Ex.text, Ex.part]) hlen)
  have HQQ := Aside0.mk (fun w1 h => Wrote.quiet (w' := w1) hb hp h)
  have HLE : Aside0 (∀ w1, Below g w0 w1 → Five ad (.int .i64 e.kind) (.int .i64 e.op) (.int .i64 e.n) (.string e.nm) (.slice A2 e.args.length c2) w1) := ⟨fun w1 h => five_at (hld w1 h)⟩
  have HLF : Aside0 (∀ w1, Below g w0 w1 → Five (ad.add 5) (.int .i64 f.kind) (.int .i64 f.op) (.int .i64 f.n) (.string f.nm) (.slice A3 f.args.length c3) w1) := ⟨fun w1 h => five_at (hlf w1 h)⟩
  have HB0 : Aside0 (∀ w1, Below w.heap.size w w1 → Below g w0 w1) := ⟨fun w1 h => hb.trans (h.mono (Nat.le_of_lt hgs))⟩
  clear hK hb hp hlen hC hKe hld hE hg hc hlf hKf hF hA2
  show Calls Tryd.prog 29 #[.pointer (some ⟨g, 0, none⟩), .agg #[.int .i64 5, .int .i64 (opI o), .int .i64 0, .string ⟨#[]⟩, .slice (some ad) 2 c]] w fun r w' => r = .returned (.tuple #[]) ∧ Wrote w0 g acc tabs (Ex.two o e f).text w w'
  generalize e.kind = K at *; generalize e.op = O at *; generalize e.n = N at *; generalize e.nm = S at *; generalize e.args.length = L at *
  generalize f.kind = K' at *; generalize f.op = O' at *; generalize f.n = N' at *; generalize f.nm = S' at *; generalize f.args.length = L' at *
  generalize (Ex.two o e f).text = T at *
  generalize opI o = OP at *; generalize lvN o = V at *; generalize (⟨(sgN o).toArray⟩ : ByteArray) = SG at *
  go_enter Tryd.func29, Tryd.ntmps29
  obtain ⟨W, hW⟩ : ∃ W, W = w.alloc (.cells #[.int .i64 5, .int .i64 OP, .int .i64 0, .string ⟨#[]⟩, .slice (some ad) 2 c] 24) := ⟨_, rfl⟩
  have HB : Below w.heap.size w W := by rw [hW]; exact (Below.refl _ w).alloc (Nat.le_refl _) _
  have HROW : Aside0 (W.heap[w.heap.size]? = some (.cells #[.int .i64 5, .int .i64 OP, .int .i64 0, .string ⟨#[]⟩, .slice (some ad) 2 c] 24 (0, 0))) := ⟨by rw [hW]; exact heap_alloc_new w _⟩
  have hlt : w.heap.size < W.heap.size := (Array.getElem?_eq_some_iff.1 HROW.out).1
  have HW := Aside0.mk hW
  have HBB := Aside0.mk HB
  clear HB hW
  go_wp2_with (first
    | (go_at_call 52; rw [← HW.out]; refine (HLV _).mono ?_; rintro e w1 ⟨rfl, hb1⟩; have B1 := HBB.out.trans (hb1.mono (Nat.le_of_lt hlt)); have r1 := (hb1.block _ hlt).trans HROW.out; have x1 := cell_of_row _ _ 1 _ _ _ r1; have x4 := cell_of_row _ _ 4 _ _ _ r1; have hlt1 : w.heap.size < w1.heap.size := (Array.getElem?_eq_some_iff.1 r1).1))
  clear HLV
  have x1' : w1.cell? ⟨w.heap.size, 1, none⟩ = some (.int .i64 OP) := x1
  have x4' : w1.cell? ⟨w.heap.size, 4, none⟩ = some (.slice (some ad) 2 c) := x4
  clear x1 x4 hb1
  obtain ⟨a0, a1, a2, a3, a4⟩ := HLE.out w1 (HB0.out w1 B1)
  obtain ⟨b0, b1, b2, b3, b4⟩ := HLF.out w1 (HB0.out w1 B1)
  have HB1 := Aside0.mk B1
  have HR1 := Aside0.mk r1
  clear B1 r1
  have hwr : IntKind.i64.wrap (V + 1) = V + 1 := IntWalk.i64_in _ (by omega)
  go_region_held3 (fun w' => w'.cell? ⟨w.heap.size, 1, none⟩ = some (.int .i64 OP) ∧ w'.cell? ⟨w.heap.size, 4, none⟩ = some (.slice (some ad) 2 c) ∧
      w'.cell? ad = some (.int .i64 K) ∧ w'.cell? ⟨ad.block, ad.off + 1, none⟩ = some (.int .i64 O) ∧ w'.cell? ⟨ad.block, ad.off + 2, none⟩ = some (.int .i64 N) ∧ w'.cell? ⟨ad.block, ad.off + 3, none⟩ = some (.string S) ∧ w'.cell? ⟨ad.block, ad.off + 4, none⟩ = some (.slice A2 L c2) ∧
      w'.cell? ⟨ad.block, ad.off + 5, none⟩ = some (.int .i64 K') ∧ w'.cell? ⟨ad.block, ad.off + 5 + 1, none⟩ = some (.int .i64 O') ∧ w'.cell? ⟨ad.block, ad.off + 5 + 2, none⟩ = some (.int .i64 N') ∧ w'.cell? ⟨ad.block, ad.off + 5 + 3, none⟩ = some (.string S') ∧ w'.cell? ⟨ad.block, ad.off + 5 + 4, none⟩ = some (.slice A3 L' c3)) (first | exact ⟨x1', x4', a0, a1, a2, a3, a4, b0, b1, b2, b3, b4⟩ | exact ⟨x1, x4, y0, y1, y2, y3, y4, u0, u1, u2, u3, u4⟩ | exact ⟨z1, z4, y0, y1, y2, y3, y4, u0, u1, u2, u3, u4⟩ | go_keep)
      (first
        | (go_at_call 54; refine (HSG _).mono ?_; rintro e w2 ⟨rfl, hb2⟩; have x1 := (hb2.cell (p := ⟨w.heap.size, 1, none⟩) (by simp; omega)).trans x1'; have x4 := (hb2.cell (p := ⟨w.heap.size, 4, none⟩) (by simp; omega)).trans x4'; have B2 := HB1.out.drew.trans (hb2.mono (Nat.le_of_lt hlt1)); have r2 := (hb2.block _ hlt1).trans HR1.out; obtain ⟨y0, y1, y2, y3, y4⟩ := HLE.out w2 (HB0.out w2 B2); obtain ⟨u0, u1, u2, u3, u4⟩ := HLF.out w2 (HB0.out w2 B2))
        | (go_at_call 10; refine (HP.out _ _ (HQQ.out _ B2) rfl).mono ?_; rintro e w3 ⟨rfl, hw3, hk3⟩; have r3 := hk3 _ _ r2 (fun e => absurd (Option.some.inj e) (by omega)) (fun c fz e => by injection e with _ e2 _; exact absurd e2 (by decide)); have z1 := cell_of_row _ _ 1 _ _ _ r3; have z4 := cell_of_row _ _ 4 _ _ _ r3; obtain ⟨y0, y1, y2, y3, y4⟩ := HLE.out w3 hw3.1; obtain ⟨u0, u1, u2, u3, u4⟩ := HLF.out w3 hw3.1))
  go_wp2
  go_end0
  exact ⟨rfl, hw3⟩
theorem exp_calls (w0 : World) (g : Nat) (hg : w0.heap.size = g) : ∀ x : Ex, ePut w0 g x
  | .num n => exp_num w0 g n
  | .var => exp_var w0 g
  | .neg e => exp_neg w0 g e hg (exp_calls w0 g hg e)
  | .two o a b => exp_two w0 g o a b hg (exp_calls w0 g hg a) (exp_calls w0 g hg b)
end Go.Proofs.YtijpghipfopplaaDoor.PDe
namespace Go.Proofs.YtijpghipfopplaaDoor.PDe
open Go.RowKit Go.Proofs.YtijpghipfopplaaDoorW.PrintWords

theorem Pr.tabs {g : Nat} {acc : List Value} {tabs : Int} {w : World} (h : Pr g acc tabs w) : w.cell? ⟨g, 2, none⟩ = some (.int .i64 tabs) ∧ w.frozen? ⟨g, 2, none⟩ = false := by
  obtain ⟨p, v, _, hg, _⟩ := h
  exact ⟨cell_of_row _ _ 2 _ _ _ hg, frozen_of_row _ _ 2 _ _ hg⟩
set_option maxHeartbeats 2000000 in
set_option maxRecDepth 100000 in
theorem line_calls (w0 : World) (g : Nat) (ps : List Pt) (hok : ∀ p ∈ ps, p.ok w0 g) (acc : List UInt8) (t : Nat) (ht : t ≤ 1000) (w : World) (bk c n : Nat) (vs : List Value) (hn : ps.length = n) (hmax : n ≤ 100) (hrow : w.heap[bk]? = some (.cells vs.toArray 20 (0, 0))) (hbg : bk ≠ g)
    (hvs : PtVs w0 ps vs) (hb : Below g w0 w) (hp : Pr g (Lib.byteCells acc) t w) (hlen : acc.length + (tabsB t ++ texts ps ++ [10]).length ≤ LIM) :
    Calls Tryd.prog 9 #[.pointer (some ⟨g, 0, none⟩), .slice (some ⟨bk, 0, none⟩) n c] w fun e w' => e = .returned (.tuple #[]) ∧ Wrote w0 g acc t (tabsB t ++ texts ps ++ [10]) w w' := by
  obtain ⟨hc2, _⟩ := hp.tabs
  have l1 : acc.length + (tabsB t).length ≤ LIM := by simp only [List.length_append] at hlen; omega
  have l2 : (acc ++ tabsB t).length + (texts ps).length ≤ LIM := by simp only [List.length_append] at hlen ⊢; omega
  have l3 : (acc ++ (tabsB t ++ texts ps)).length + [10].length ≤ LIM := by simp only [List.length_append] at hlen ⊢; omega
  have H0 := fun w => repeat_calls t ht w
  have H1 := Aside0.mk (puts_of w0 g acc t [.str (tabsB t)] [.iface 9 (.string ⟨(tabsB t).toArray⟩)] 1 (tabsB t) w (by simp [Pt.ok]) rfl (by decide) ⟨rfl, trivial⟩ (by simp [texts, Pt.text]) l1)
  have HQ := Aside0.mk (fun w1 h => Wrote.quiet (w' := w1) hb hp h)
  have H2 : Aside0 (∀ w2, Wrote w0 g acc t (tabsB t) w w2 → Calls Tryd.prog 10 #[.pointer (some ⟨g, 0, none⟩), .slice (some ⟨bk, 0, none⟩) n c] w2 fun e w' => e = .returned (.tuple #[]) ∧ Wrote w0 g acc t (tabsB t ++ texts ps) w w') :=
    ⟨fun w2 h => (put_calls w0 g ps hok (acc ++ tabsB t) t w2 bk c n vs hn hmax (h.row hrow hbg (by decide)) hbg hvs.at h.1 h.2.1 l2).mono fun e w' k => ⟨k.1, h.trans k.2⟩⟩
  have H3 : Aside0 (∀ w3, Wrote w0 g acc t (tabsB t ++ texts ps) w w3 → Calls Tryd.prog 10 #[.pointer (some ⟨g, 0, none⟩), .slice (some ⟨w3.heap.size, 0, none⟩) 1 1] (w3.alloc (.cells #[.iface 9 (.string ⟨#[10]⟩)] 20)) fun e w' => e = .returned (.tuple #[]) ∧ Wrote w0 g acc t (tabsB t ++ texts ps ++ [10]) w w') :=
    ⟨fun w3 h => (put_new w0 g [.str [10]] (by simp [Pt.ok]) (acc ++ (tabsB t ++ texts ps)) t w3 1 1 [.iface 9 (.string ⟨#[10]⟩)] rfl (by decide) ⟨rfl, trivial⟩ h.1 h.2.1 l3).mono fun e w' k => ⟨k.1, h.trans k.2⟩⟩
  clear hrow hb hp hlen hvs hok l1 l2 l3 hn
  generalize texts ps = T at *
  generalize tabsB t = TB at *
  go_enter Tryd.func9, Tryd.ntmps9
  go_wp2_with (first
    | (go_at_call 25; refine (H0 _).mono ?_; rintro e w1 ⟨rfl, hb1⟩; have B1 := Aside0.mk hb1; clear hb1)
    | (go_at_call 10; refine (H1.out _ _ (HQ.out _ B1.out) rfl).mono ?_; rintro e w2 ⟨rfl, hw2, _⟩; have W2 := Aside0.mk hw2; clear hw2 H1)
    | (go_at_call 10; refine (H2.out _ W2.out).mono ?_; rintro e w3 ⟨rfl, hw3⟩; have W3 := Aside0.mk hw3; clear hw3 H2)
    | (go_at_call 10; refine (H3.out _ W3.out).mono ?_; rintro e w4 ⟨rfl, hw4⟩))
  go_end0
  exact ⟨rfl, hw4⟩
end Go.Proofs.YtijpghipfopplaaDoor.PDe
namespace Go.Proofs.YtijpghipfopplaaDoor.PDe
open Go.RowKit Go.Proofs.YtijpghipfopplaaDoorW.PrintWords

theorem line_new (w0 : World) (g : Nat) (ps : List Pt) (hok : ∀ p ∈ ps, p.ok w0 g) (acc : List UInt8) (t : Nat) (ht : t ≤ 1000) (W1 : World) (B c n : Nat) (vs : List Value) (hn : ps.length = n) (hmax : n ≤ 100)
    (hvs : PtVs w0 ps vs) (hb : Below g w0 W1) (hp : Pr g (Lib.byteCells acc) t W1) (hB : W1.heap.size = B) (hlen : acc.length + (tabsB t ++ texts ps ++ [10]).length ≤ LIM) :
    Calls Tryd.prog 9 #[.pointer (some ⟨g, 0, none⟩), .slice (some ⟨B, 0, none⟩) n c] (W1.alloc (.cells vs.toArray 20)) fun e w' => e = .returned (.tuple #[]) ∧ Wrote w0 g acc t (tabsB t ++ texts ps ++ [10]) W1 w' := by
  subst hB
  have hgs : g < W1.heap.size := by obtain ⟨_, _, _, hg, _⟩ := hp; exact (Array.getElem?_eq_some_iff.1 hg).1
  refine (line_calls w0 g ps hok acc t ht (W1.alloc (.cells vs.toArray 20)) W1.heap.size c n vs hn hmax (heap_alloc_new W1 _) (by omega) hvs (hb.alloc (Nat.le_of_lt hgs) _) (hp.alloc _) hlen).mono ?_
  rintro e w' ⟨rfl, h⟩
  exact ⟨rfl, h.of_alloc⟩
/-- line's contract at a row that was just laid behind what changes nothing, as one statement for the walk. -/
def Lines (w0 : World) (g : Nat) (acc : List UInt8) (t : Nat) (vs : List Value) (n : Nat) (T : List UInt8) (w : World) : Prop :=
  ∀ w1 B, Wrote w0 g acc t [] w w1 → w1.heap.size = B → Calls Tryd.prog 9 #[.pointer (some ⟨g, 0, none⟩), .slice (some ⟨B, 0, none⟩) n n] (w1.alloc (.cells vs.toArray 20)) fun e w' => e = .returned (.tuple #[]) ∧ Wrote w0 g acc t T w w' ∧ Lib.OthersKept 5 (some g) w1 w'
theorem lines_of (w0 : World) (g : Nat) (acc : List UInt8) (t : Nat) (ht : t ≤ 1000) (ps : List Pt) (vs : List Value) (n : Nat) (T : List UInt8) (w : World) (hok : ∀ p ∈ ps, p.ok w0 g) (hn : ps.length = n) (hmax : n ≤ 100) (hvs : PtVs w0 ps vs) (hT : tabsB t ++ texts ps ++ [10] = T) (hlen : acc.length + T.length ≤ LIM) :
    Lines w0 g acc t vs n T w := by
  intro w1 B h hB
  subst hT
  exact (line_new w0 g ps hok acc t ht w1 B n n vs hn hmax hvs h.ready.1 h.ready.2 hB hlen).mono fun e w' k => ⟨k.1, h.after k.2, k.2.2.2.1⟩
/-- How deep statements stand in one another. -/
def Bl.deep : Bl → Nat | .nil => 0 | .set _ => 1 | .ret _ => 1 | .whil b => b.deep + 1 | .iff b => b.deep + 1
def sPut (w0 : World) (g : Nat) (b : Bl) : Prop := ∀ (acc : List UInt8) (t : Nat) (w : World) (cs : List Value), kS.K w0 b cs → Below g w0 w → Pr g (Lib.byteCells acc) t w → t + b.deep ≤ 500 → acc.length + (b.text t).length ≤ LIM →
  Calls Tryd.prog 30 #[.pointer (some ⟨g, 0, none⟩), .agg cs.toArray] w fun e w' => e = .returned (.tuple #[]) ∧ Wrote w0 g acc t (b.text t) w w'
def bPut (w0 : World) (g : Nat) (b : Bl) : Prop := ∀ (acc : List UInt8) (t : Nat) (w : World) (A : Option Addr) (c : Nat), Kd.C kS w0 A b.lst.length b.lst → Below g w0 w → Pr g (Lib.byteCells acc) t w → t + 1 + b.deep ≤ 500 → acc.length + (b.text (t + 1)).length ≤ LIM →
  Calls Tryd.prog 11 #[.pointer (some ⟨g, 0, none⟩), .slice A b.lst.length c] w fun e w' => e = .returned (.tuple #[]) ∧ Wrote w0 g acc t (b.text (t + 1)) w w'
set_option maxHeartbeats 4000000 in
set_option maxRecDepth 100000 in
theorem st_ret (w0 : World) (g : Nat) (e : Ex) (hg : w0.heap.size = g) : sPut w0 g (.ret e) := by
  intro acc t w cs hK hb hp ht hlen
  have hgs : g < w.heap.size := by obtain ⟨_, _, _, hg, _⟩ := hp; exact (Array.getElem?_eq_some_iff.1 hg).1
  have hu24 := Tryd.underlying24
  have hu27 := Tryd.underlying27
  obtain ⟨A3, c3, A4, c4, A5, c5, rfl, hc3, hC, _⟩ := kS_open hK
  obtain ⟨ad, ecs, hA1, hKe, hld⟩ := parts_at hC 0 e rfl
  subst hA1
  obtain ⟨A2, c2, rfl, _⟩ := kE_open hKe
  rw [hg] at hld
  have hE := exp_calls w0 g hg e
  have HP := Aside0.mk (lines_of w0 g acc t (by omega) [.str [114, 101, 116, 117, 114, 110, 32], .ex e, .str [59]] [.iface 9 (.string ⟨#[114, 101, 116, 117, 114, 110, 32]⟩), .iface 24 (.agg #[.int .i64 e.kind, .int .i64 e.op, .int .i64 e.n, .string e.nm, .slice A2 e.args.length c2]), .iface 9 (.string ⟨#[59]⟩)] 3 ((Bl.ret e).text t) w (by
    intro p hp
    simp only [List.mem_cons, List.not_mem_nil, or_false] at hp
    rcases hp with rfl | rfl | rfl
    · trivial
    · exact hE
    · trivial) rfl (by decide) ⟨rfl, ⟨_, hKe, rfl⟩, rfl, trivial⟩ (by simp [texts, Pt.text, Bl.text]) hlen)
  have HQQ := Aside0.mk (fun w1 h => Wrote.quiet (w' := w1) hb hp h)
  have HLD : Aside0 (∀ w1, Below w.heap.size w w1 → Five ad (.int .i64 e.kind) (.int .i64 e.op) (.int .i64 e.n) (.string e.nm) (.slice A2 e.args.length c2) w1) := ⟨fun w1 h => five_at (hld w1 (hb.trans (h.mono (Nat.le_of_lt hgs))))⟩
  clear hK hb hp hlen hC hKe hld hE hg hc3
  show Calls Tryd.prog 30 #[.pointer (some ⟨g, 0, none⟩), .agg #[.int .i64 8, .int .i64 0, .string ⟨#[]⟩, .slice (some ad) 1 c3, .slice A4 0 c4, .slice A5 0 c5]] w fun r w' => r = .returned (.tuple #[]) ∧ Wrote w0 g acc t ((Bl.ret e).text t) w w'
  generalize (Bl.ret e).text t = T at *
  generalize e.kind = K at *; generalize e.op = O at *; generalize e.n = N at *; generalize e.nm = S at *; generalize e.args.length = L at *
  have HB : Below w.heap.size w (w.alloc (.cells #[.int .i64 8, .int .i64 0, .string ⟨#[]⟩, .slice (some ad) 1 c3, .slice A4 0 c4, .slice A5 0 c5] 27)) := (Below.refl _ w).alloc (Nat.le_refl _) _
  obtain ⟨a0, a1, a2, a3, a4⟩ := HLD.out _ HB
  have HBB := Aside0.mk HB
  clear HB
  go_enter Tryd.func30, Tryd.ntmps30
  go_wp2_with (first | (go_at_call 9; refine (HP.out _ _ (HQQ.out _ HBB.out) (by simp)).mono ?_; rintro e w2 ⟨rfl, hw2, _⟩))
  go_end0
  exact ⟨rfl, hw2⟩
set_option maxHeartbeats 4000000 in
set_option maxRecDepth 100000 in
theorem st_set (w0 : World) (g : Nat) (e : Ex) (hg : w0.heap.size = g) : sPut w0 g (.set e) := by
  intro acc t w cs hK hb hp ht hlen
  have hgs : g < w.heap.size := by obtain ⟨_, _, _, hg, _⟩ := hp; exact (Array.getElem?_eq_some_iff.1 hg).1
  have hu24 := Tryd.underlying24
  have hu27 := Tryd.underlying27
  obtain ⟨A3, c3, A4, c4, A5, c5, rfl, hc3, hC, _⟩ := kS_open hK
  obtain ⟨ad, ecs, hA1, hKe, hld⟩ := parts_at hC 0 e rfl
  subst hA1
  obtain ⟨A2, c2, rfl, _⟩ := kE_open hKe
  rw [hg] at hld
  have hE := exp_calls w0 g hg e
  have HP := Aside0.mk (lines_of w0 g acc t (by omega) [.str [120], .str [32, 61, 32], .ex e, .str [59]] [.iface 9 (.string ⟨#[120]⟩), .iface 9 (.string ⟨#[32, 61, 32]⟩), .iface 24 (.agg #[.int .i64 e.kind, .int .i64 e.op, .int .i64 e.n, .string e.nm, .slice A2 e.args.length c2]), .iface 9 (.string ⟨#[59]⟩)] 4 ((Bl.set e).text t) w (by
    intro p hp
    simp only [List.mem_cons, List.not_mem_nil, or_false] at hp
    rcases hp with rfl | rfl | rfl | rfl
    · trivial
    · trivial
    · exact hE
    · trivial) rfl (by decide) ⟨rfl, rfl, ⟨_, hKe, rfl⟩, rfl, trivial⟩ (by simp [texts, Pt.text, Bl.text]) hlen)
  have HQQ := Aside0.mk (fun w1 h => Wrote.quiet (w' := w1) hb hp h)
  have HLE : Aside0 (∀ w1, Below g w0 w1 → Five ad (.int .i64 e.kind) (.int .i64 e.op) (.int .i64 e.n) (.string e.nm) (.slice A2 e.args.length c2) w1) := ⟨fun w1 h => five_at (hld w1 h)⟩
  have HLD : Aside0 (∀ w1, Below w.heap.size w w1 → Five ad (.int .i64 e.kind) (.int .i64 e.op) (.int .i64 e.n) (.string e.nm) (.slice A2 e.args.length c2) w1) := ⟨fun w1 h => five_at (hld w1 (hb.trans (h.mono (Nat.le_of_lt hgs))))⟩
  clear hK hb hp hlen hC hKe hld hE hg hc3
  show Calls Tryd.prog 30 #[.pointer (some ⟨g, 0, none⟩), .agg #[.int .i64 2, .int .i64 0, .string ⟨#[120]⟩, .slice (some ad) 1 c3, .slice A4 0 c4, .slice A5 0 c5]] w fun r w' => r = .returned (.tuple #[]) ∧ Wrote w0 g acc t ((Bl.set e).text t) w w'
  generalize (Bl.set e).text t = T at *
  generalize e.kind = K at *; generalize e.op = O at *; generalize e.n = N at *; generalize e.nm = S at *; generalize e.args.length = L at *
  go_enter Tryd.func30, Tryd.ntmps30
  go_wp2
  obtain ⟨W, hW⟩ : ∃ W, W = w.alloc (.cells #[.int .i64 2, .int .i64 0, .string ⟨#[120]⟩, .slice (some ad) 1 c3, .slice A4 0 c4, .slice A5 0 c5] 27) := ⟨_, rfl⟩
  rw [← hW]
  have HB : Below w.heap.size w W := by rw [hW]; exact (Below.refl _ w).alloc (Nat.le_refl _) _
  have HROW : W.heap[w.heap.size]? = some (.cells #[.int .i64 2, .int .i64 0, .string ⟨#[120]⟩, .slice (some ad) 1 c3, .slice A4 0 c4, .slice A5 0 c5] 27 (0, 0)) := by rw [hW]; exact heap_alloc_new w _
  have f2 : W.cell? ⟨w.heap.size, 2, none⟩ = some (.string ⟨#[120]⟩) := cell_of_row _ _ 2 _ _ _ HROW
  have f3 : W.cell? ⟨w.heap.size, 3, none⟩ = some (.slice (some ad) 1 c3) := cell_of_row _ _ 3 _ _ _ HROW
  have hlt : w.heap.size < W.heap.size := (Array.getElem?_eq_some_iff.1 HROW).1
  obtain ⟨a0, a1, a2, a3, a4⟩ := HLD.out _ HB
  have HBB := Aside0.mk HB
  have HR := Aside0.mk HROW
  clear HB hW HROW
  go_region_held3 (fun w' => w'.cell? ⟨w.heap.size, 2, none⟩ = some (.string ⟨#[120]⟩) ∧ w'.cell? ⟨w.heap.size, 3, none⟩ = some (.slice (some ad) 1 c3) ∧
      w'.cell? ad = some (.int .i64 K) ∧ w'.cell? ⟨ad.block, ad.off + 1, none⟩ = some (.int .i64 O) ∧ w'.cell? ⟨ad.block, ad.off + 2, none⟩ = some (.int .i64 N) ∧ w'.cell? ⟨ad.block, ad.off + 3, none⟩ = some (.string S) ∧ w'.cell? ⟨ad.block, ad.off + 4, none⟩ = some (.slice A2 L c2)) (first | exact ⟨f2, f3, a0, a1, a2, a3, a4⟩ | exact ⟨z2, z3, y0, y1, y2, y3, y4⟩ | go_keep)
      (first
        | (go_at_call 9; refine (HP.out _ _ (HQQ.out _ HBB.out.drew) rfl).mono ?_; rintro e w2 ⟨rfl, hw2, hk2⟩; have r2 := hk2 _ _ HR.out (fun e => absurd (Option.some.inj e) (by omega)) (fun c fz e => by injection e with _ e2 _; exact absurd e2 (by decide)); have z2 := cell_of_row _ _ 2 _ _ _ r2; have z3 := cell_of_row _ _ 3 _ _ _ r2; obtain ⟨y0, y1, y2, y3, y4⟩ := HLE.out w2 hw2.1))
  go_wp2
  go_end0
  exact ⟨rfl, hw2⟩
/-- line's contract behind what was written. -/
def LinesT (w0 : World) (g : Nat) (acc : List UInt8) (t : Nat) (T : List UInt8) (vs : List Value) (n : Nat) (T' : List UInt8) (w : World) : Prop :=
  ∀ w3, Wrote w0 g acc t T w w3 → Calls Tryd.prog 9 #[.pointer (some ⟨g, 0, none⟩), .slice (some ⟨w3.heap.size, 0, none⟩) n n] (w3.alloc (.cells vs.toArray 20)) fun e w' => e = .returned (.tuple #[]) ∧ Wrote w0 g acc t (T ++ T') w w' ∧ Lib.OthersKept 5 (some g) w3 w'
theorem linesT_of (w0 : World) (g : Nat) (acc : List UInt8) (t : Nat) (ht : t ≤ 1000) (T : List UInt8) (ps : List Pt) (vs : List Value) (n : Nat) (T' : List UInt8) (w : World) (hok : ∀ p ∈ ps, p.ok w0 g) (hn : ps.length = n) (hmax : n ≤ 100) (hvs : PtVs w0 ps vs) (hT : tabsB t ++ texts ps ++ [10] = T') (hlen : acc.length + (T ++ T').length ≤ LIM) :
    LinesT w0 g acc t T vs n T' w := by
  intro w3 h
  subst hT
  refine (line_new w0 g ps hok (acc ++ T) t ht w3 _ n n vs hn hmax hvs h.1 h.2.1 rfl (by simp only [List.length_append] at hlen ⊢; omega)).mono ?_
  rintro e w' ⟨rfl, k⟩
  exact ⟨rfl, h.trans k, k.2.2.1⟩
/-- block's contract behind what was written. -/
def BlockT (w0 : World) (g : Nat) (acc : List UInt8) (t : Nat) (T : List UInt8) (A : Option Addr) (n c : Nat) (T' : List UInt8) (w : World) : Prop :=
  ∀ w3, Wrote w0 g acc t T w w3 → Calls Tryd.prog 11 #[.pointer (some ⟨g, 0, none⟩), .slice A n c] w3 fun e w' => e = .returned (.tuple #[]) ∧ Wrote w0 g acc t (T ++ T') w w' ∧ Lib.OthersKept 5 (some g) w3 w'
theorem blockT_of (w0 : World) (g : Nat) (acc : List UInt8) (t : Nat) (T : List UInt8) (b : Bl) (A : Option Addr) (c : Nat) (w : World) (hB : bPut w0 g b) (hC : Kd.C kS w0 A b.lst.length b.lst) (ht : t + 1 + b.deep ≤ 500) (hlen : acc.length + (T ++ b.text (t + 1)).length ≤ LIM) :
    BlockT w0 g acc t T A b.lst.length c (b.text (t + 1)) w := by
  intro w3 h
  refine (hB (acc ++ T) t w3 A c hC h.1 h.2.1 ht (by simp only [List.length_append] at hlen ⊢; omega)).mono ?_
  rintro e w' ⟨rfl, k⟩
  exact ⟨rfl, h.trans k, k.2.2.1⟩
theorem kept_row {g k : Nat} {w w' : World} {cs : Array Value} {T : TypeId} (h : Lib.OthersKept 5 (some g) w w') (hk : w.heap[k]? = some (.cells cs T (0, 0))) (hg : g < k) (hT : T ≠ 5) : w'.heap[k]? = some (.cells cs T (0, 0)) :=
  h k _ hk (fun e => absurd (Option.some.inj e) (by omega)) (fun c fz e => by injection e with _ e2 _; exact hT e2)
set_option maxHeartbeats 4000000 in
set_option maxRecDepth 100000 in
theorem st_whil (w0 : World) (g : Nat) (b : Bl) (hg : w0.heap.size = g) (hBP : bPut w0 g b) : sPut w0 g (.whil b) := by
  intro acc t w cs hK hb hp ht hlen
  have hgs : g < w.heap.size := by obtain ⟨_, _, _, hg, _⟩ := hp; exact (Array.getElem?_eq_some_iff.1 hg).1
  have hu24 := Tryd.underlying24
  have hu27 := Tryd.underlying27
  obtain ⟨A3, c3, A4, c4, A5, c5, rfl, hc3, hC, hc4, hC4, _⟩ := kS_open hK
  obtain ⟨ad, ecs, hA1, hKe, hld⟩ := parts_at hC 0 (.num 0) rfl
  subst hA1
  obtain ⟨A2, c2, rfl, _⟩ := kE_open hKe
  rw [hg] at hld
  have hE := exp_calls w0 g hg (.num 0)
  have ht1 : t + 1 + b.deep ≤ 500 := by simp only [Bl.deep] at ht; omega
  obtain ⟨T1, hT1⟩ : ∃ T, T = tabsB t ++ ([119, 104, 105, 108, 101, 32, 40] ++ [48] ++ [41, 32, 123]) ++ [10] := ⟨_, rfl⟩
  obtain ⟨T3, hT3⟩ : ∃ T, T = tabsB t ++ [125] ++ [10] := ⟨_, rfl⟩
  have eT : (Bl.whil b).text t = T1 ++ b.text (t + 1) ++ T3 := by rw [hT1, hT3]; rfl
  rw [eT] at hlen ⊢
  have l1 : acc.length + T1.length ≤ LIM := by simp only [List.length_append] at hlen; omega
  have l2 : acc.length + (T1 ++ b.text (t + 1)).length ≤ LIM := by simp only [List.length_append] at hlen ⊢; omega
  have H1 := Aside0.mk (lines_of w0 g acc t (by omega) [.str [119, 104, 105, 108, 101, 32, 40], .ex (.num 0), .str [41, 32, 123]] [.iface 9 (.string ⟨#[119, 104, 105, 108, 101, 32, 40]⟩), .iface 24 (.agg #[.int .i64 1, .int .i64 0, .int .i64 0, .string ⟨#[]⟩, .slice A2 0 c2]), .iface 9 (.string ⟨#[41, 32, 123]⟩)] 3 T1 w (by
    intro p hp
    simp only [List.mem_cons, List.not_mem_nil, or_false] at hp
    rcases hp with rfl | rfl | rfl
    · trivial
    · exact hE
    · trivial) rfl (by decide) ⟨rfl, ⟨_, hKe, rfl⟩, rfl, trivial⟩ (by rw [hT1]; rfl) l1)
  have H2 := Aside0.mk (blockT_of w0 g acc t T1 b A4 c4 w hBP hC4 ht1 l2)
  have H3 := Aside0.mk (linesT_of w0 g acc t (by omega) (T1 ++ b.text (t + 1)) [.str [125]] [.iface 9 (.string ⟨#[125]⟩)] 1 T3 w (by simp [Pt.ok]) rfl (by decide) ⟨rfl, trivial⟩ (by rw [hT3]; simp [texts, Pt.text]) hlen)
  have HQQ := Aside0.mk (fun w1 h => Wrote.quiet (w' := w1) hb hp h)
  have HLD : Aside0 (∀ w1, Below w.heap.size w w1 → Five ad (.int .i64 1) (.int .i64 0) (.int .i64 0) (.string ⟨#[]⟩) (.slice A2 0 c2) w1) := ⟨fun w1 h => five_at (hld w1 (hb.trans (h.mono (Nat.le_of_lt hgs))))⟩
  clear hK hb hp hlen hC hKe hld hE hg hc3 hC4 hBP ht ht1 l1 l2 eT hT1 hT3
  show Calls Tryd.prog 30 #[.pointer (some ⟨g, 0, none⟩), .agg #[.int .i64 5, .int .i64 0, .string ⟨#[]⟩, .slice (some ad) 1 c3, .slice A4 b.lst.length c4, .slice A5 0 c5]] w fun r w' => r = .returned (.tuple #[]) ∧ Wrote w0 g acc t (T1 ++ b.text (t + 1) ++ T3) w w'
  have hn : (Bl.whil b).th.lst.length = b.lst.length := rfl
  rw [hn] at hc4
  clear hn
  generalize b.text (t + 1) = TB at *
  generalize b.lst.length = n at *
  have HB : Below w.heap.size w (w.alloc (.cells #[.int .i64 5, .int .i64 0, .string ⟨#[]⟩, .slice (some ad) 1 c3, .slice A4 n c4, .slice A5 0 c5] 27)) := (Below.refl _ w).alloc (Nat.le_refl _) _
  obtain ⟨a0, a1, a2, a3, a4⟩ := HLD.out _ HB
  have HBB := Aside0.mk HB
  clear HB
  go_enter Tryd.func30, Tryd.ntmps30
  go_wp2_with (first
    | (go_at_call 9; refine (H1.out _ _ (HQQ.out _ HBB.out) (by simp)).mono ?_; rintro e w2 ⟨rfl, hw2, hk2⟩; have z4 := cell_of_row _ _ 4 _ _ _ (kept_row hk2 (heap_alloc_new w _) hgs (by decide)); simp at z4; have W2 := Aside0.mk hw2; clear hw2 hk2 H1)
    | (go_at_call 11; refine (H2.out _ W2.out).mono ?_; rintro e w3 ⟨rfl, hw3, hk3⟩; have W3 := Aside0.mk hw3; clear hw3 hk3)
    | (go_at_call 9; refine (H3.out _ W3.out).mono ?_; rintro e w4 ⟨rfl, hw4, _⟩))
  go_end0
  exact ⟨rfl, hw4⟩
set_option maxHeartbeats 4000000 in
set_option maxRecDepth 100000 in
theorem st_if0 (w0 : World) (g : Nat) (hg : w0.heap.size = g) (hBP : bPut w0 g .nil) : sPut w0 g (.iff .nil) := by
  intro acc t w cs hK hb hp ht hlen
  have hgs : g < w.heap.size := by obtain ⟨_, _, _, hg, _⟩ := hp; exact (Array.getElem?_eq_some_iff.1 hg).1
  have hu24 := Tryd.underlying24
  have hu27 := Tryd.underlying27
  obtain ⟨A3, c3, A4, c4, A5, c5, rfl, hc3, hC, hc4, hC4, _⟩ := kS_open hK
  obtain ⟨ad, ecs, hA1, hKe, hld⟩ := parts_at hC 0 (.num 0) rfl
  subst hA1
  obtain ⟨A2, c2, rfl, _⟩ := kE_open hKe
  rw [hg] at hld
  have hE := exp_calls w0 g hg (.num 0)
  have ht1 : t + 1 + Bl.nil.deep ≤ 500 := by simp only [Bl.deep] at ht ⊢; omega
  obtain ⟨T1, hT1⟩ : ∃ T, T = tabsB t ++ ([105, 102, 32, 40] ++ [48] ++ [41, 32, 123]) ++ [10] := ⟨_, rfl⟩
  obtain ⟨T3, hT3⟩ : ∃ T, T = tabsB t ++ [125] ++ [10] := ⟨_, rfl⟩
  have eT : (Bl.iff .nil).text t = T1 ++ [] ++ T3 := by rw [hT1, hT3]; rfl
  rw [eT] at hlen ⊢
  have l1 : acc.length + T1.length ≤ LIM := by simp only [List.length_append] at hlen; omega
  have l2 : acc.length + (T1 ++ Bl.nil.text (t + 1)).length ≤ LIM := by simp only [List.length_append, Bl.text] at hlen ⊢; simp only [List.length_nil] at hlen ⊢; omega
  have H1 := Aside0.mk (lines_of w0 g acc t (by omega) [.str [105, 102, 32, 40], .ex (.num 0), .str [41, 32, 123]] [.iface 9 (.string ⟨#[105, 102, 32, 40]⟩), .iface 24 (.agg #[.int .i64 1, .int .i64 0, .int .i64 0, .string ⟨#[]⟩, .slice A2 0 c2]), .iface 9 (.string ⟨#[41, 32, 123]⟩)] 3 T1 w (by
    intro p hp
    simp only [List.mem_cons, List.not_mem_nil, or_false] at hp
    rcases hp with rfl | rfl | rfl
    · trivial
    · exact hE
    · trivial) rfl (by decide) ⟨rfl, ⟨_, hKe, rfl⟩, rfl, trivial⟩ (by rw [hT1]; rfl) l1)
  have H2 := Aside0.mk (blockT_of w0 g acc t T1 .nil A4 c4 w hBP hC4 ht1 l2)
  have H3 := Aside0.mk (linesT_of w0 g acc t (by omega) (T1 ++ []) [.str [125]] [.iface 9 (.string ⟨#[125]⟩)] 1 T3 w (by simp [Pt.ok]) rfl (by decide) ⟨rfl, trivial⟩ (by rw [hT3]; simp [texts, Pt.text]) hlen)
  have HQQ := Aside0.mk (fun w1 h => Wrote.quiet (w' := w1) hb hp h)
  have HLD : Aside0 (∀ w1, Below w.heap.size w w1 → Five ad (.int .i64 1) (.int .i64 0) (.int .i64 0) (.string ⟨#[]⟩) (.slice A2 0 c2) w1) := ⟨fun w1 h => five_at (hld w1 (hb.trans (h.mono (Nat.le_of_lt hgs))))⟩
  clear hK hb hp hlen hC hKe hld hE hg hc3 hC4 hBP ht ht1 l1 l2 eT hT1 hT3
  show Calls Tryd.prog 30 #[.pointer (some ⟨g, 0, none⟩), .agg #[.int .i64 4, .int .i64 0, .string ⟨#[]⟩, .slice (some ad) 1 c3, .slice A4 0 c4, .slice A5 0 c5]] w fun r w' => r = .returned (.tuple #[]) ∧ Wrote w0 g acc t (T1 ++ [] ++ T3) w w'
  have HB : Below w.heap.size w (w.alloc (.cells #[.int .i64 4, .int .i64 0, .string ⟨#[]⟩, .slice (some ad) 1 c3, .slice A4 0 c4, .slice A5 0 c5] 27)) := (Below.refl _ w).alloc (Nat.le_refl _) _
  obtain ⟨a0, a1, a2, a3, a4⟩ := HLD.out _ HB
  have HBB := Aside0.mk HB
  clear HB
  go_enter Tryd.func30, Tryd.ntmps30
  go_wp2_with (first
    | (go_at_call 9; refine (H1.out _ _ (HQQ.out _ HBB.out) (by simp)).mono ?_; rintro e w2 ⟨rfl, hw2, hk2⟩; have R2 := Aside0.mk (kept_row hk2 (heap_alloc_new w _) hgs (by decide)); have z4 := cell_of_row _ _ 4 _ _ _ R2.out; simp at z4; have W2 := Aside0.mk hw2; clear hw2 hk2 H1)
    | (go_at_call 11; refine (H2.out _ W2.out).mono ?_; rintro e w3 ⟨rfl, hw3, hk3⟩; have z5 := cell_of_row _ _ 5 _ _ _ (kept_row hk3 R2.out hgs (by decide)); simp at z5; have W3 := Aside0.mk hw3; clear hw3 hk3)
    | (go_at_call 9; refine (H3.out _ W3.out).mono ?_; rintro e w4 ⟨rfl, hw4, _⟩))
  go_end0
  exact ⟨rfl, hw4⟩
set_option maxHeartbeats 4000000 in
set_option maxRecDepth 100000 in
theorem st_if1 (w0 : World) (g : Nat) (b : Bl) (hg : w0.heap.size = g) (hnb : b ≠ .nil) (hBP : bPut w0 g .nil) (hBQ : bPut w0 g b) : sPut w0 g (.iff b) := by
  intro acc t w cs hK hb hp ht hlen
  have hgs : g < w.heap.size := by obtain ⟨_, _, _, hg, _⟩ := hp; exact (Array.getElem?_eq_some_iff.1 hg).1
  have hu24 := Tryd.underlying24
  have hu27 := Tryd.underlying27
  obtain ⟨A3, c3, A4, c4, A5, c5, rfl, hc3, hC, hc4, hC4, hc5, hC5⟩ := kS_open hK
  have hbl : b.lst = [b] := by cases b <;> first | exact absurd rfl hnb | rfl
  obtain ⟨ad, ecs, hA1, hKe, hld⟩ := parts_at hC 0 (.num 0) rfl
  subst hA1
  obtain ⟨A2, c2, rfl, _⟩ := kE_open hKe
  rw [hg] at hld
  have hE := exp_calls w0 g hg (.num 0)
  have ht1 : t + 1 + Bl.nil.deep ≤ 500 := by simp only [Bl.deep] at ht ⊢; omega
  have ht2 : t + 1 + b.deep ≤ 500 := by simp only [Bl.deep] at ht ⊢; omega
  obtain ⟨T1, hT1⟩ : ∃ T, T = tabsB t ++ ([105, 102, 32, 40] ++ [48] ++ [41, 32, 123]) ++ [10] := ⟨_, rfl⟩
  obtain ⟨T3, hT3⟩ : ∃ T, T = tabsB t ++ [125] ++ [10] := ⟨_, rfl⟩
  obtain ⟨TE, hTE⟩ : ∃ T, T = tabsB t ++ [125, 32, 101, 108, 115, 101, 32, 123] ++ [10] := ⟨_, rfl⟩
  have eT : (Bl.iff b).text t = T1 ++ [] ++ TE ++ b.text (t + 1) ++ T3 := by rw [hT1, hT3, hTE]; cases b <;> first | exact absurd rfl hnb | simp [Bl.text]
  rw [eT] at hlen ⊢
  have l1 : acc.length + T1.length ≤ LIM := by simp only [List.length_append] at hlen; omega
  have l2 : acc.length + (T1 ++ Bl.nil.text (t + 1)).length ≤ LIM := by simp only [List.length_append, Bl.text] at hlen ⊢; simp only [List.length_nil] at hlen ⊢; omega
  have l3 : acc.length + (T1 ++ [] ++ TE).length ≤ LIM := by simp only [List.length_append] at hlen ⊢; omega
  have l4 : acc.length + (T1 ++ [] ++ TE ++ b.text (t + 1)).length ≤ LIM := by simp only [List.length_append] at hlen ⊢; omega
  have H1 := Aside0.mk (lines_of w0 g acc t (by omega) [.str [105, 102, 32, 40], .ex (.num 0), .str [41, 32, 123]] [.iface 9 (.string ⟨#[105, 102, 32, 40]⟩), .iface 24 (.agg #[.int .i64 1, .int .i64 0, .int .i64 0, .string ⟨#[]⟩, .slice A2 0 c2]), .iface 9 (.string ⟨#[41, 32, 123]⟩)] 3 T1 w (by
    intro p hp
    simp only [List.mem_cons, List.not_mem_nil, or_false] at hp
    rcases hp with rfl | rfl | rfl
    · trivial
    · exact hE
    · trivial) rfl (by decide) ⟨rfl, ⟨_, hKe, rfl⟩, rfl, trivial⟩ (by rw [hT1]; rfl) l1)
  have H2 := Aside0.mk (blockT_of w0 g acc t T1 .nil A4 c4 w hBP hC4 ht1 l2)
  have HE := Aside0.mk (linesT_of w0 g acc t (by omega) (T1 ++ []) [.str [125, 32, 101, 108, 115, 101, 32, 123]] [.iface 9 (.string ⟨#[125, 32, 101, 108, 115, 101, 32, 123]⟩)] 1 TE w (by simp [Pt.ok]) rfl (by decide) ⟨rfl, trivial⟩ (by rw [hTE]; simp [texts, Pt.text]) l3)
  have H5 := Aside0.mk (blockT_of w0 g acc t (T1 ++ [] ++ TE) b A5 c5 w hBQ hC5 ht2 l4)
  have H3 := Aside0.mk (linesT_of w0 g acc t (by omega) (T1 ++ [] ++ TE ++ b.text (t + 1)) [.str [125]] [.iface 9 (.string ⟨#[125]⟩)] 1 T3 w (by simp [Pt.ok]) rfl (by decide) ⟨rfl, trivial⟩ (by rw [hT3]; simp [texts, Pt.text]) hlen)
  have HQQ := Aside0.mk (fun w1 h => Wrote.quiet (w' := w1) hb hp h)
  have HLD : Aside0 (∀ w1, Below w.heap.size w w1 → Five ad (.int .i64 1) (.int .i64 0) (.int .i64 0) (.string ⟨#[]⟩) (.slice A2 0 c2) w1) := ⟨fun w1 h => five_at (hld w1 (hb.trans (h.mono (Nat.le_of_lt hgs))))⟩
  have e5 : (Bl.iff b).el.lst.length = 1 := by show b.lst.length = 1; rw [hbl]; rfl
  rw [e5] at hc5
  rw [show b.lst.length = 1 by rw [hbl]; rfl] at H5
  clear hK hb hp hlen hC hKe hld hE hg hc3 hC4 hBP ht ht1 l1 l2 eT hT1 hT3 hC5 hBQ ht2 l3 l4 hTE hnb
  rw [e5]
  clear e5 hbl
  show Calls Tryd.prog 30 #[.pointer (some ⟨g, 0, none⟩), .agg #[.int .i64 4, .int .i64 0, .string ⟨#[]⟩, .slice (some ad) 1 c3, .slice A4 0 c4, .slice A5 1 c5]] w fun r w' => r = .returned (.tuple #[]) ∧ Wrote w0 g acc t (T1 ++ [] ++ TE ++ b.text (t + 1) ++ T3) w w'
  generalize b.text (t + 1) = TB at *
  have HB : Below w.heap.size w (w.alloc (.cells #[.int .i64 4, .int .i64 0, .string ⟨#[]⟩, .slice (some ad) 1 c3, .slice A4 0 c4, .slice A5 1 c5] 27)) := (Below.refl _ w).alloc (Nat.le_refl _) _
  obtain ⟨a0, a1, a2, a3, a4⟩ := HLD.out _ HB
  have HBB := Aside0.mk HB
  clear HB
  go_enter Tryd.func30, Tryd.ntmps30
  go_wp2_with (first
    | (go_at_call 9; refine (H1.out _ _ (HQQ.out _ HBB.out) (by simp)).mono ?_; rintro e w2 ⟨rfl, hw2, hk2⟩; have R2 := Aside0.mk (kept_row hk2 (heap_alloc_new w _) hgs (by decide)); have z4 := cell_of_row _ _ 4 _ _ _ R2.out; simp at z4; have W2 := Aside0.mk hw2; clear hw2 hk2 H1)
    | (go_at_call 11; refine (H2.out _ W2.out).mono ?_; rintro e w3 ⟨rfl, hw3, hk3⟩; have R3 := Aside0.mk (kept_row hk3 R2.out hgs (by decide)); have z5 := cell_of_row _ _ 5 _ _ _ R3.out; simp at z5; have W3 := Aside0.mk hw3; clear hw3 hk3 H2)
    | (go_at_call 9; refine (HE.out _ W3.out).mono ?_; rintro e w4 ⟨rfl, hw4, hk4⟩; have y5 := cell_of_row _ _ 5 _ _ _ (kept_row hk4 R3.out hgs (by decide)); simp at y5; have W4 := Aside0.mk hw4; clear hw4 hk4 HE)
    | (go_at_call 11; refine (H5.out _ W4.out).mono ?_; rintro e w5 ⟨rfl, hw5, hk5⟩; have W5 := Aside0.mk hw5; clear hw5 hk5 H5)
    | (go_at_call 9; refine (H3.out _ W5.out).mono ?_; rintro e w6 ⟨rfl, hw6, _⟩))
  go_end0
  exact ⟨rfl, hw6⟩
end Go.Proofs.YtijpghipfopplaaDoor.PDe
namespace Go.Proofs.YtijpghipfopplaaDoor.PDe
open Go.RowKit Go.Proofs.YtijpghipfopplaaDoorW.PrintWords

theorem Pr.retab {g : Nat} {acc : List Value} {tabs tabs' : Int} {w : World} (h : Pr g acc tabs w) : Pr g acc tabs' (w.setCell ⟨g, 2, none⟩ (.int .i64 tabs')) := by
  obtain ⟨p, v, hp, hg, ho, hne⟩ := h
  exact ⟨p, v, hp, set2 hg, own_set ho hne, hne⟩
theorem Wrote.retab {w0 : World} {g : Nat} {acc T : List UInt8} {t t' : Int} {w w2 : World} (h : Wrote w0 g acc t' T (w.setCell ⟨g, 2, none⟩ (.int .i64 t')) w2) : Wrote w0 g acc t T w (w2.setCell ⟨g, 2, none⟩ (.int .i64 t)) :=
  ⟨h.1.setCell (p := ⟨g, 2, none⟩) (Nat.le_refl _) _, h.2.1.retab, (((Lib.OthersKept.refl _ _ w).setCell ⟨g, 2, none⟩ rfl _).trans h.2.2.1).setCell ⟨g, 2, none⟩ rfl _, by have := h.2.2.2; simpa using this⟩
/-- Six cells from an address on. -/
def Six (ad : Addr) (a b c d e f : Value) (w : World) : Prop := w.cell? ad = some a ∧ w.cell? ⟨ad.block, ad.off + 1, none⟩ = some b ∧ w.cell? ⟨ad.block, ad.off + 2, none⟩ = some c ∧ w.cell? ⟨ad.block, ad.off + 3, none⟩ = some d ∧ w.cell? ⟨ad.block, ad.off + 4, none⟩ = some e ∧ w.cell? ⟨ad.block, ad.off + 5, none⟩ = some f
theorem six_at {w : World} {ad : Addr} {a b c d e f : Value} (h : ∀ j v, [a, b, c, d, e, f][j]? = some v → w.cell? (ad.add j) = some v) : Six ad a b c d e f w :=
  ⟨h 0 _ rfl, h 1 _ rfl, h 2 _ rfl, h 3 _ rfl, h 4 _ rfl, h 5 _ rfl⟩
theorem stmt_at {w0 : World} {A : Option Addr} {xs : List Bl} (h : Kd.C kS w0 A xs.length xs) (i : Nat) (x : Bl) (hx : xs[i]? = some x) :
    ∃ ad cs, A = some ad ∧ kS.K w0 x cs ∧ ∀ w, Below w0.heap.size w0 w → ∀ j v, cs[j]? = some v → w.cell? ((ad.add (i * 6)).add j) = some v := by
  obtain ⟨h1, h2, h3⟩ := h
  have hi : i < xs.length := (List.getElem?_eq_some_iff.1 hx).1
  obtain ⟨ad, hA, hcell⟩ := h3 (by omega)
  obtain ⟨cs, hl, hK, hcc⟩ := hcell i x hx
  refine ⟨ad, cs, hA, hK, fun w hb j v hj => ?_⟩
  rw [Addr.add_add]
  exact pw_cell_below hb (hcc j v hj)
set_option maxHeartbeats 2000000 in
set_option maxRecDepth 100000 in
theorem block_nil (w0 : World) (g : Nat) : bPut w0 g .nil := by
  intro acc t w A c hC hb hp ht hlen
  have ht1 : t + 1 ≤ 500 := by simp only [Bl.deep] at ht; omega
  obtain ⟨hc2, hf2⟩ := hp.tabs
  have HR := Aside0.mk (Wrote.retab (t := (t : Int)) (t' := (t : Int) + 1) (Wrote.nil (hb.setCell (p := ⟨g, 2, none⟩) (Nat.le_refl _) (.int .i64 ((t : Int) + 1))) hp.retab))
  have hd2 : (w.setCell ⟨g, 2, none⟩ (.int .i64 ((t : Int) + 1))).cell? ⟨g, 2, none⟩ = some (.int .i64 ((t : Int) + 1)) := World.cell?_setCell_same' _ _ _ (by rw [hc2]; rfl)
  clear hC hb hp ht hlen
  show Calls Tryd.prog 11 #[.pointer (some ⟨g, 0, none⟩), .slice A 0 c] w fun e w' => e = .returned (.tuple #[]) ∧ Wrote w0 g acc t [] w w'
  go_enter Tryd.func11, Tryd.ntmps11
  go_wp2
  refine wp_loop_rounds 1 ?_
  rw [rounds_succ]
  go_wp2
  go_end0
  exact ⟨rfl, HR.out⟩
set_option maxHeartbeats 2000000 in
set_option maxRecDepth 100000 in
theorem block_one (w0 : World) (g : Nat) (b : Bl) (hg : w0.heap.size = g) (hnb : b ≠ .nil) (hS : sPut w0 g b) : bPut w0 g b := by
  intro acc t w A c hC hb hp ht hlen
  have hgs : g < w.heap.size := by obtain ⟨_, _, _, hg, _⟩ := hp; exact (Array.getElem?_eq_some_iff.1 hg).1
  have hu27 := Tryd.underlying27
  have hbl : b.lst = [b] := by cases b <;> first | exact absurd rfl hnb | rfl
  have ht1 : t + 1 ≤ 500 := by omega
  rw [hbl] at hC ⊢
  obtain ⟨ad, cs, rfl, hK, hld⟩ := stmt_at hC 0 b rfl
  rw [hg] at hld
  obtain ⟨A3, c3, A4, c4, A5, c5, rfl, _⟩ := kS_open hK
  obtain ⟨hc2, hf2⟩ := hp.tabs
  have hb1 := hb.setCell (p := ⟨g, 2, none⟩) (Nat.le_refl _) (.int .i64 ((t : Int) + 1))
  have hp1 : Pr g (Lib.byteCells acc) ((t : Int) + 1) (w.setCell ⟨g, 2, none⟩ (.int .i64 ((t : Int) + 1))) := hp.retab
  have hd2 : (w.setCell ⟨g, 2, none⟩ (.int .i64 ((t : Int) + 1))).cell? ⟨g, 2, none⟩ = some (.int .i64 ((t : Int) + 1)) := World.cell?_setCell_same' _ _ _ (by rw [hc2]; rfl)
  have hcall : ∀ o, Calls Tryd.prog 30 #[.pointer (some ⟨g, 0, none⟩), .agg #[.int .i64 b.kind, .int .i64 0, .string b.nm, .slice A3 b.args.length c3, .slice A4 b.th.lst.length c4, .slice A5 b.el.lst.length c5]] ((w.setCell ⟨g, 2, none⟩ (.int .i64 ((t : Int) + 1))).alloc o) fun e w' => e = .returned (.tuple #[]) ∧ Wrote w0 g acc ((t : Int) + 1) (b.text (t + 1)) (w.setCell ⟨g, 2, none⟩ (.int .i64 ((t : Int) + 1))) w' := by
    intro o
    refine (hS acc (t + 1) _ _ hK (hb1.alloc (by simp; omega) o) (by have := hp1.alloc o; exact this) (by omega) hlen).mono ?_
    rintro e w' ⟨rfl, h⟩
    exact ⟨rfl, h.of_alloc⟩
  have hsix : Six ad (.int .i64 b.kind) (.int .i64 0) (.string b.nm) (.slice A3 b.args.length c3) (.slice A4 b.th.lst.length c4) (.slice A5 b.el.lst.length c5) (w.setCell ⟨g, 2, none⟩ (.int .i64 ((t : Int) + 1))) := six_at (hld _ hb1)
  obtain ⟨s0, s1, s2, s3, s4, s5⟩ := hsix
  have HC := Aside0.mk hcall
  have HRT : Aside0 (∀ w2, Wrote w0 g acc ((t : Int) + 1) (b.text (t + 1)) (w.setCell ⟨g, 2, none⟩ (.int .i64 ((t : Int) + 1))) w2 → Wrote w0 g acc t (b.text (t + 1)) w (w2.setCell ⟨g, 2, none⟩ (.int .i64 (t : Int)))) := ⟨fun w2 h => h.retab⟩
  clear hcall hC hb hp ht hlen hb1 hp1 hS hK hbl hnb hg hld
  show Calls Tryd.prog 11 #[.pointer (some ⟨g, 0, none⟩), .slice (some ad) 1 c] w fun e w' => e = .returned (.tuple #[]) ∧ Wrote w0 g acc t (b.text (t + 1)) w w'
  generalize b.text (t + 1) = T at *
  generalize b.kind = K at *; generalize b.nm = N at *; generalize b.args.length = L3 at *; generalize b.th.lst.length = L4 at *; generalize b.el.lst.length = L5 at *
  go_enter Tryd.func11, Tryd.ntmps11
  go_wp2
  generalize w.setCell ⟨g, 2, none⟩ (.int .i64 ((t : Int) + 1)) = W1 at *
  refine wp_loop_rounds 2 ?_
  rw [rounds_succ]
  go_wp2_with (first | (go_at_call 30; refine (HC.out _).mono ?_; rintro e w2 ⟨rfl, hw2⟩; obtain ⟨d2, e2⟩ := hw2.2.1.tabs; have W2 := Aside0.mk hw2; clear hw2))
  rw [rounds_succ]
  go_wp2
  go_end0
  exact ⟨rfl, HRT.out _ W2.out⟩
theorem bput_calls (w0 : World) (g : Nat) (hg : w0.heap.size = g) : ∀ b : Bl, bPut w0 g b
  | .nil => block_nil w0 g
  | .set e => block_one w0 g _ hg (by simp) (st_set w0 g e hg)
  | .ret e => block_one w0 g _ hg (by simp) (st_ret w0 g e hg)
  | .whil b => block_one w0 g _ hg (by simp) (st_whil w0 g b hg (bput_calls w0 g hg b))
  | .iff .nil => block_one w0 g _ hg (by simp) (st_if0 w0 g hg (block_nil w0 g))
  | .iff (.set e) => block_one w0 g _ hg (by simp) (st_if1 w0 g _ hg (by simp) (block_nil w0 g) (bput_calls w0 g hg (.set e)))
  | .iff (.ret e) => block_one w0 g _ hg (by simp) (st_if1 w0 g _ hg (by simp) (block_nil w0 g) (bput_calls w0 g hg (.ret e)))
  | .iff (.whil b) => block_one w0 g _ hg (by simp) (st_if1 w0 g _ hg (by simp) (block_nil w0 g) (bput_calls w0 g hg (.whil b)))
  | .iff (.iff b) => block_one w0 g _ hg (by simp) (st_if1 w0 g _ hg (by simp) (block_nil w0 g) (bput_calls w0 g hg (.iff b)))
end Go.Proofs.YtijpghipfopplaaDoor.PDe
namespace Go.Proofs.YtijpghipfopplaaDoor.PDe
open Go.RowKit Go.Proofs.YtijpghipfopplaaDoorW.PrintWords

/-- put's contract behind what was written. -/
def PutsT (w0 : World) (g : Nat) (acc : List UInt8) (t : Int) (T : List UInt8) (vs : List Value) (n : Nat) (T' : List UInt8) (w : World) : Prop :=
  ∀ w3, Wrote w0 g acc t T w w3 → Calls Tryd.prog 10 #[.pointer (some ⟨g, 0, none⟩), .slice (some ⟨w3.heap.size, 0, none⟩) n n] (w3.alloc (.cells vs.toArray 20)) fun e w' => e = .returned (.tuple #[]) ∧ Wrote w0 g acc t (T ++ T') w w' ∧ Lib.OthersKept 5 (some g) w3 w'
theorem putsT_of (w0 : World) (g : Nat) (acc : List UInt8) (t : Int) (T : List UInt8) (ps : List Pt) (vs : List Value) (n : Nat) (T' : List UInt8) (w : World) (hok : ∀ p ∈ ps, p.ok w0 g) (hn : ps.length = n) (hmax : n ≤ 100) (hvs : PtVs w0 ps vs) (hT : texts ps = T') (hlen : acc.length + (T ++ T').length ≤ LIM) :
    PutsT w0 g acc t T vs n T' w := by
  intro w3 h
  subst hT
  refine (put_new w0 g ps hok (acc ++ T) t w3 n n vs hn hmax hvs h.1 h.2.1 (by simp only [List.length_append] at hlen ⊢; omega)).mono ?_
  rintro e w' ⟨rfl, k⟩
  exact ⟨rfl, h.trans k, k.2.2.1⟩
/-- A program's text. -/
def Fn1.text : Fn1 → List UInt8
  | .bad => []
  | .fn ty b => (Pt.kind ty).text ++ [32] ++ [102] ++ [40] ++ [41, 32, 123, 10] ++ b.text 1 ++ (tabsB 0 ++ [125] ++ [10])
/-- Four cells from an address on. -/
def Quad (ad : Addr) (a b c d : Value) (w : World) : Prop := w.cell? ad = some a ∧ w.cell? ⟨ad.block, ad.off + 1, none⟩ = some b ∧ w.cell? ⟨ad.block, ad.off + 2, none⟩ = some c ∧ w.cell? ⟨ad.block, ad.off + 3, none⟩ = some d
theorem quad_at {w : World} {ad : Addr} {a b c d : Value} (h : ∀ j v, [a, b, c, d][j]? = some v → w.cell? (ad.add j) = some v) : Quad ad a b c d w :=
  ⟨h 0 _ rfl, h 1 _ rfl, h 2 _ rfl, h 3 _ rfl⟩
theorem fn_at {w0 : World} {A : Option Addr} {xs : List Fn1} (h : Kd.C kF w0 A xs.length xs) (i : Nat) (x : Fn1) (hx : xs[i]? = some x) :
    ∃ ad cs, A = some ad ∧ kF.K w0 x cs ∧ ∀ w, Below w0.heap.size w0 w → ∀ j v, cs[j]? = some v → w.cell? ((ad.add (i * 4)).add j) = some v := by
  obtain ⟨h1, h2, h3⟩ := h
  have hi : i < xs.length := (List.getElem?_eq_some_iff.1 hx).1
  obtain ⟨ad, hA, hcell⟩ := h3 (by omega)
  obtain ⟨cs, hl, hK, hcc⟩ := hcell i x hx
  refine ⟨ad, cs, hA, hK, fun w hb j v hj => ?_⟩
  rw [Addr.add_add]
  exact pw_cell_below hb (hcc j v hj)
set_option maxHeartbeats 2000000 in
set_option maxRecDepth 100000 in
theorem print_bad (f : Fn1) (hf : f.ok = false) (A0 : Option Addr) (c0 : Nat) (A1 : Option Addr) (c1 : Nat) (w : World) (h0 : Kd.C k49 w A0 0 []) (h1 : Kd.C kF w A1 1 [f]) :
    Calls Tryd.prog 4 #[.agg #[.slice A0 0 c0, .slice A1 1 c1]] w fun e w' => e = .returned (.tuple #[.string ⟨#[]⟩, .int .i64 1]) ∧ Below w.heap.size w w' := by
  have hu34 := Tryd.underlying34
  have HR : ∀ w', Below w.heap.size w w' → Calls Tryd.prog 7 #[.agg #[.slice A0 0 c0, .slice A1 1 c1]] w' fun e w'' => e = .returned (.bool false) ∧ Below w'.heap.size w' w'' := fun w' hb =>
    (right_calls f A0 c0 A1 c1 w' (Kd.C_below h0 hb) (Kd.C_below h1 hb)).mono fun e w'' h => ⟨by rw [h.1, hf], h.2⟩
  clear h0 h1 hf
  go_enter Tryd.func4, Tryd.ntmps4
  go_wp2_with (first
    | (go_at_call 7; refine (HR _ ((Below.refl _ w).alloc (Nat.le_refl _) _)).mono ?_; rintro e w1 ⟨rfl, hb1⟩; have B1 := (one_row hb1).2))
  go_ret2
  exact ⟨rfl, B1⟩
set_option maxHeartbeats 4000000 in
set_option maxRecDepth 100000 in
theorem print_ok (ty : Bool) (b : Bl) (hf : b.fits 100 = true) (hd : b.deep ≤ 400) (hlen : (Fn1.fn ty b).text.length ≤ LIM) (A0 : Option Addr) (c0 : Nat) (A1 : Option Addr) (c1 : Nat) (w : World) (h0 : Kd.C k49 w A0 0 []) (h1 : Kd.C kF w A1 1 [.fn ty b]) :
    Calls Tryd.prog 4 #[.agg #[.slice A0 0 c0, .slice A1 1 c1]] w fun e w' => e = .returned (.tuple #[.string ⟨(Fn1.fn ty b).text.toArray⟩, .int .i64 0]) ∧ Below w.heap.size w w' := by
  have hu34 := Tryd.underlying34
  have hu30 := Tryd.underlying30
  have hu47 := Tryd.underlying47
  have HR : ∀ w', Below w.heap.size w w' → Calls Tryd.prog 7 #[.agg #[.slice A0 0 c0, .slice A1 1 c1]] w' fun e w'' => e = .returned (.bool true) ∧ Below w'.heap.size w' w'' := fun w' hb =>
    (right_calls (.fn ty b) A0 c0 A1 c1 w' (Kd.C_below h0 hb) (Kd.C_below h1 hb)).mono fun e w'' h => ⟨by rw [h.1]; show _ = Ending.returned (.bool true); rw [← hf]; rfl, h.2⟩
  have H1 := Aside0.mk h1
  obtain ⟨TX, hTX⟩ : ∃ T, T = (Fn1.fn ty b).text := ⟨_, rfl⟩
  rw [← hTX] at hlen ⊢
  have HLEN := Aside0.mk hlen
  have HTX := Aside0.mk hTX
  clear hTX
  have HD := Aside0.mk hd
  clear h0 h1 hf hlen hd
  go_enter Tryd.func4, Tryd.ntmps4
  go_wp2_with (first
    | (go_at_call 7; refine (HR _ ((Below.refl _ w).alloc (Nat.le_refl _) _)).mono ?_; rintro e w1 ⟨rfl, hb1⟩; obtain ⟨p0, B1⟩ := one_row hb1; have q0 := p0 0; have q1 := p0 1; clear p0 hb1 HR; simp at q0 q1; have q0' : (w1.alloc (.cells #[.pointer none, .slice none 0 0, .int .i64 0] 47)).cell? ⟨w.heap.size, 0, none⟩ = some (.slice A0 0 c0) := (World.cell?_alloc_some w1 _ _ (by rw [q0]; rfl)).trans q0; have q1' : (w1.alloc (.cells #[.pointer none, .slice none 0 0, .int .i64 0] 47)).cell? ⟨w.heap.size, 1, none⟩ = some (.slice A1 1 c1) := (World.cell?_alloc_some w1 _ _ (by rw [q1]; rfl)).trans q1))
  have HC1 := Kd.C_below H1.out B1
  obtain ⟨ad, fcs, hA1, hKf, hlf⟩ := fn_at HC1 0 _ rfl
  subst hA1
  obtain ⟨A2, c2, A3, c3, rfl, hC2, hc3, hC3⟩ := kF_open hKf
  obtain ⟨g, hg⟩ : ∃ g, w1.heap.size = g := ⟨_, rfl⟩
  have hP0 : Pr g (Lib.byteCells []) (0 : Nat) (w1.alloc (.cells #[.pointer none, .slice none 0 0, .int .i64 0] 47)) :=
    ⟨_, _, .inl rfl, by rw [← hg]; exact heap_alloc_new w1 _, ⟨by simp [hg], .inl ⟨rfl, rfl⟩⟩, by simp [Value.ownBlock]⟩
  have hB0 : Below g w1 (w1.alloc (.cells #[.pointer none, .slice none 0 0, .int .i64 0] 47)) := by rw [← hg]; exact (Below.refl _ w1).alloc (Nat.le_refl _) _
  have hgs : g < (w1.alloc (.cells #[.pointer none, .slice none 0 0, .int .i64 0] 47)).heap.size := by simp [hg]
  have hwg : w.heap.size < g := by rw [← hg]; exact block_lt_of_cell q0
  rw [hg] at hlf ⊢
  clear q0 q1
  generalize w1.alloc (.cells #[.pointer none, .slice none 0 0, .int .i64 0] 47) = WP at *
  have HLF : Aside0 (∀ w', Below g w1 w' → Quad ad (.string (Fn1.fn ty b).nm) (.int .i64 (Fn1.fn ty b).ty) (.slice A2 0 c2) (.slice A3 b.lst.length c3) w') := ⟨fun w' h => quad_at (hlf w' h)⟩
  obtain ⟨T1, hT1⟩ : ∃ T, T = (Pt.kind ty).text ++ [32] ++ [102] ++ [40] := ⟨_, rfl⟩
  obtain ⟨T4, hT4⟩ : ∃ T, T = tabsB 0 ++ [125] ++ [10] := ⟨_, rfl⟩
  have eT : TX = T1 ++ [41, 32, 123, 10] ++ b.text (0 + 1) ++ T4 := by rw [HTX.out, hT1, hT4]; rfl
  have hlen := HLEN.out
  have hd := HD.out
  rw [eT] at hlen
  have l3 : ([] : List UInt8).length + (T1 ++ [41, 32, 123, 10] ++ b.text (0 + 1)).length ≤ LIM := by simp only [List.length_append, List.length_nil] at hlen ⊢; omega
  have l2 : ([] : List UInt8).length + (T1 ++ [41, 32, 123, 10]).length ≤ LIM := by simp only [List.length_append, List.length_nil] at l3 ⊢; omega
  have l1 : ([] : List UInt8).length + T1.length ≤ LIM := by simp only [List.length_append, List.length_nil] at l2 ⊢; omega
  have P1 := Aside0.mk (puts_of w1 g [] (0 : Nat) [.kind ty, .str [32], .str [102], .str [40]] [.iface 51 (.int .i64 (tyI ty)), .iface 9 (.string ⟨#[32]⟩), .iface 9 (.string ⟨#[102]⟩), .iface 9 (.string ⟨#[40]⟩)] 4 T1 WP (by simp [Pt.ok]) rfl (by decide) ⟨rfl, rfl, rfl, rfl, trivial⟩ (by rw [hT1]; simp [texts, Pt.text]) l1)
  have P2 := Aside0.mk (putsT_of w1 g [] (0 : Nat) T1 [.str [41, 32, 123, 10]] [.iface 9 (.string ⟨#[41, 32, 123, 10]⟩)] 1 [41, 32, 123, 10] WP (by simp [Pt.ok]) rfl (by decide) ⟨rfl, trivial⟩ (by simp [texts, Pt.text]) l2)
  have P3 := Aside0.mk (blockT_of w1 g [] 0 (T1 ++ [41, 32, 123, 10]) b A3 c3 WP (bput_calls w1 g hg b) hC3 (by omega) l3)
  have P4 := Aside0.mk (linesT_of w1 g [] 0 (by omega) (T1 ++ [41, 32, 123, 10] ++ b.text (0 + 1)) [.str [125]] [.iface 9 (.string ⟨#[125]⟩)] 1 T4 WP (by simp [Pt.ok]) rfl (by decide) ⟨rfl, trivial⟩ (by rw [hT4]; simp [texts, Pt.text]) (by simpa using hlen))
  have P5 : Aside0 (∀ w', Wrote w1 g [] (0 : Nat) (T1 ++ [41, 32, 123, 10] ++ b.text (0 + 1) ++ T4) WP w' → Calls Tryd.prog 12 #[.pointer (some ⟨g, 0, none⟩)] w' fun e w'' => e = .returned (.string ⟨TX.toArray⟩) ∧ Below w.heap.size w w'') :=
    ⟨fun w' h => by rw [eT]; exact (string_calls g _ _ w' h.2.1 (by simp)).mono fun e w'' k => ⟨k.1, B1.trans ((h.1.trans k.2).mono (Nat.le_of_lt hwg))⟩⟩
  have HQQ := Aside0.mk (fun w' h => Wrote.quiet (w' := w') hB0 hP0 h)
  have HBQ := Aside0.mk B1
  obtain ⟨a0, a1, a2, a3⟩ := HLF.out WP hB0
  clear l1 l2 l3 eT hT1 hT4 hlen hd HLEN HD H1 HC1 HTX hlf hKf hC2 hc3 hC3 hP0 hB0 B1 hg
  generalize b.text (0 + 1) = TB at *
  generalize (Fn1.fn ty b).body.lst.length = n at *
  refine wp_loop_rounds 1 ?_
  rw [rounds_succ]
  go_wp2
  refine wp_loop_rounds 2 ?_
  rw [rounds_succ]
  go_wp2_with (first
    | (go_at_call 10; refine (P1.out _ _ (HQQ.out _ ((Below.refl _ WP).alloc (Nat.le_refl _) _)) (by simp)).mono ?_; rintro e w2 ⟨rfl, hw2, hk2⟩; have R2 := Aside0.mk (kept_row hk2 (heap_alloc_new WP _) hgs (by decide)); have y2 := cell_of_row _ _ 2 _ _ _ R2.out; simp at y2; have W2 := Aside0.mk hw2; clear hw2 hk2 P1))
  refine wp_loop_rounds 1 ?_
  rw [rounds_succ]
  go_wp2_with (first
    | (go_at_call 10; refine (P2.out _ W2.out).mono ?_; rintro e w3 ⟨rfl, hw3, hk3⟩; have R3 := Aside0.mk (kept_row hk3 R2.out hgs (by decide)); have y3 := cell_of_row _ _ 3 _ _ _ R3.out; simp at y3; have W3 := Aside0.mk hw3; clear hw3 hk3 P2)
    | (go_at_call 11; refine (P3.out _ W3.out).mono ?_; rintro e w4 ⟨rfl, hw4, hk4⟩; have W4 := Aside0.mk hw4; clear hw4 hk4 P3)
    | (go_at_call 9; refine (P4.out _ W4.out).mono ?_; rintro e w5 ⟨rfl, hw5, hk5⟩; have W5 := Aside0.mk hw5; clear hw5 hk5 P4))
  rw [rounds_succ]
  go_wp2_with (first
    | (go_at_call 12; refine (P5.out _ W5.out).mono ?_; rintro e w6 ⟨rfl, hb6⟩))
  go_ret2
  exact ⟨rfl, hb6⟩
end Go.Proofs.YtijpghipfopplaaDoor.PDe
