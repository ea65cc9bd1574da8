/- The orderer in memory: what its blocks hold, and how that stands while other blocks are written. The methods move and done: each call does to the orderer what mv and done say. -/
import Derived.Test.YtecpajjpeeaeaaaOrdA
import Derived.Maps.RangeWalk
import Derived.Maps.OwnOps
import Derived.Maps.OwnSet
import Derived.WalkKit
import Derived.WalkSpells
import Derived.WalkLawsBesides
namespace Go.Proofs.Ytecpajjpeeaeaaa.POrd
open Go.RowKit Go.Maps Go.Proofs.YtecpajjpeeaeaaaW.PrintWords

theorem law3 : Keyed Try.prog 3 := int_keyed Try.underlying3
theorem zero3 (w : World) : (zeroValue 3).run Try.prog w = .ok (.int .i64 0) w := by kernel_rfl
theorem info3 : (Try.prog.info? 3).map (fun i => (i.zero, i.size, i.bytes)) = some (some (.int .i64 0), 1, 8) := by kernel_rfl
/-- Block b is a map that reads as m. -/
def IsMap' (w : World) (b n : Nat) (m : IM) : Prop := w.ownsMap Try.prog 3 (plainElem (H := Unit) Try.prog 3) b n (asD m)
/-- Block b is a map whose answers (0, where there is none) are f's. -/
def IsFn (w : World) (b n : Nat) (f : Int → Int) : Prop := ∃ D : DataW Unit, w.ownsMap Try.prog 3 (plainElem (H := Unit) Try.prog 3) b n D ∧ ∀ x, (Lit.int .i64 x).wf = true → D.atKey (.int .i64 x) (.lit (.int .i64 0)) = .lit (.int .i64 (f x))

structure St (w0 w : World) (g bf ba : Nat) (vr vo : Value) (st : OSt) : Prop where
  blk : w.heap[g]? = some (.cells #[.map (some bf), .map (some ba), vr, vo] 38 (0, 0))
  gg : w0.heap.size ≤ g
  gf : w0.heap.size ≤ bf
  ga : w0.heap.size ≤ ba
  ne : bf ≠ ba
  mf : IsMap' w bf st.frm.length st.frm
  ma : IsFn w ba st.cnt st.asked
  rr : Kd.R (Kd.int .i64) 3 w w0.heap.size (fun _ => True) vr st.ready
  ro : Kd.R k24 24 w w0.heap.size (fun _ => True) vo st.out

section
variable {w0 w w1 : World} {g bf ba : Nat} {vr vo v1 : Value} {st : OSt}
theorem map_ne_row {b n : Nat} {D : DataW Unit} {α : Type} {d : Kd α} {e base : Nat} {ok : Nat → Prop} {v : Value} {xs : List α} (h : w.ownsMap Try.prog 3 (plainElem (H := Unit) Try.prog 3) b n D) (hr : d.R e w base ok v xs) : some b ≠ v.ownBlock := by
  intro e1
  obtain ⟨inner, ho⟩ := Kd.R_own hr
  obtain ⟨c, hc⟩ := own_typed ho b e1.symm
  obtain ⟨es, clock, hb, _⟩ := h
  rw [hc] at hb; cases hb
theorem map_ne_blk {b n : Nat} {D : DataW Unit} {c : Array Value} {t : TypeId} (h : w.ownsMap Try.prog 3 (plainElem (H := Unit) Try.prog 3) b n D) (hb' : w.heap[g]? = some (.cells c t (0, 0))) : b ≠ g := by
  rintro rfl
  obtain ⟨es, clock, hb, _⟩ := h
  rw [hb] at hb'; cases hb'
theorem IsMap'.kept {b n : Nat} {m : IM} {row : Option Nat} (h : IsMap' w b n m) (hg : w.grownBy w1 row) (hne : some b ≠ row) : IsMap' w1 b n m := World.ownsMap.kept h hg hne
theorem IsFn.kept {b n : Nat} {f : Int → Int} {row : Option Nat} (h : IsFn w b n f) (hg : w.grownBy w1 row) (hne : some b ≠ row) : IsFn w1 b n f := by
  obtain ⟨D, h, hf⟩ := h
  exact ⟨D, h.kept hg hne, hf⟩
theorem grownBy_setCell' (w : World) (b j : Nat) (v : Value) : w.grownBy (w.setCell ⟨b, j, none⟩ v) (some b) :=
  ⟨rfl, rfl, rfl, by simp [World.setCell], fun i _ hi => Below.heap_setCell w _ v i (fun e => hi (by rw [e]))⟩
theorem St.lt (h : St w0 w g bf ba vr vo st) : g < w.heap.size := blk_lt h.blk
/-- Other blocks are written, or made. -/
theorem St.kept (h : St w0 w g bf ba vr vo st) {row : Option Nat} (hg : w.grownBy w1 row) (h1 : some g ≠ row) (h2 : some bf ≠ row) (h3 : some ba ≠ row) (h4 : row ≠ vr.ownBlock) (h5 : row ≠ vo.ownBlock) : St w0 w1 g bf ba vr vo st :=
  ⟨blk_grown h.blk hg h1, h.gg, h.gf, h.ga, h.ne, h.mf.kept hg h2, h.ma.kept hg h3, Kd.R_grown1 h.rr rfl hg h4, Kd.R_grown1 h.ro rfl hg h5⟩
theorem St.below (h : St w0 w g bf ba vr vo st) (hb : Below w.heap.size w w1) : St w0 w1 g bf ba vr vo st :=
  ⟨blk_below h.blk hb, h.gg, h.gf, h.ga, h.ne, h.mf.kept (grown_of_below hb none) (by simp), h.ma.kept (grown_of_below hb none) (by simp), Kd.R_below h.rr hb, Kd.R_below h.ro hb⟩
theorem St.alloc (h : St w0 w g bf ba vr vo st) (o : Obj) : St w0 (w.alloc o) g bf ba vr vo st := h.below (below_alloc (Below.refl _ _) o)
theorem rows_ne (h : St w0 w g bf ba vr vo st) : vo.ownBlock = none ∨ vo.ownBlock ≠ vr.ownBlock := by
  obtain ⟨_, h1⟩ := Kd.R_own h.ro
  obtain ⟨_, h2⟩ := Kd.R_own h.rr
  exact own_type_ne h1 h2 (by decide)
/-- The row of what came out has been appended to, and its slice stored. -/
theorem St.out_ (h : St w0 w g bf ba vr vo st) (hg : w.grownBy w1 vo.ownBlock) {o' : List S24} (ho : k24.R 24 w1 w0.heap.size (fun _ => True) v1 o') (hat : v1.ownBlock = vo.ownBlock ∨ ∃ b, v1.ownBlock = some b ∧ w.heap.size ≤ b) :
    St w0 (w1.setCell ⟨g, 3, none⟩ v1) g bf ba vr v1 { st with out := o' } := by
  have hb1 := blk_grown h.blk hg (Kd.R_ne h.ro h.blk (by decide))
  obtain ⟨Df, hDf⟩ : ∃ D, w.ownsMap Try.prog 3 (plainElem (H := Unit) Try.prog 3) bf st.frm.length D := ⟨_, h.mf⟩
  obtain ⟨Da, hDa, _⟩ := h.ma
  have hs := grownBy_setCell' w1 g 3 v1
  refine ⟨by simpa using blk_set hb1 3 v1, h.gg, h.gf, h.ga, h.ne, (h.mf.kept hg (map_ne_row hDf h.ro)).kept hs (fun e => map_ne_blk hDf h.blk (by simpa using e)), (h.ma.kept hg (map_ne_row hDa h.ro)).kept hs (fun e => map_ne_blk hDa h.blk (by simpa using e)), ?_, ?_⟩
  · have hne : vo.ownBlock ≠ vr.ownBlock ∨ vo.ownBlock = none := (rows_ne h).symm
    rcases hne with hne | hne
    · exact Kd.R_set (Kd.R_grown1 h.rr rfl hg hne) hb1 (by decide) 3 v1
    · rw [hne] at hg
      exact Kd.R_set (Kd.R_grown h.rr hg (by simp)) hb1 (by decide) 3 v1
  · exact Kd.R_set ho hb1 (by decide) 3 v1
/-- The stack of what is ready has been appended to (or cut), and its slice stored. -/
theorem St.ready_ (h : St w0 w g bf ba vr vo st) (hg : w.grownBy w1 vr.ownBlock) {l' : List Int} (ho : (Kd.int .i64).R 3 w1 w0.heap.size (fun _ => True) v1 l') :
    St w0 (w1.setCell ⟨g, 2, none⟩ v1) g bf ba v1 vo { st with ready := l' } := by
  have hb1 := blk_grown h.blk hg (Kd.R_ne h.rr h.blk (by decide))
  obtain ⟨Df, hDf⟩ : ∃ D, w.ownsMap Try.prog 3 (plainElem (H := Unit) Try.prog 3) bf st.frm.length D := ⟨_, h.mf⟩
  obtain ⟨Da, hDa, _⟩ := h.ma
  have hs := grownBy_setCell' w1 g 2 v1
  refine ⟨by simpa using blk_set hb1 2 v1, h.gg, h.gf, h.ga, h.ne, (h.mf.kept hg (map_ne_row hDf h.rr)).kept hs (fun e => map_ne_blk hDf h.blk (by simpa using e)), (h.ma.kept hg (map_ne_row hDa h.rr)).kept hs (fun e => map_ne_blk hDa h.blk (by simpa using e)), ?_, ?_⟩
  · exact Kd.R_set ho hb1 (by decide) 2 v1
  · have hne : vr.ownBlock = none ∨ vr.ownBlock ≠ vo.ownBlock := by
      rcases rows_ne h with hn | hn
      · by_cases e : vr.ownBlock = none
        · exact .inl e
        · right; rw [hn]; exact e
      · exact .inr (Ne.symm hn)
    rcases hne with hne | hne
    · rw [hne] at hg
      exact Kd.R_set (Kd.R_grown h.ro hg (by simp)) hb1 (by decide) 2 v1
    · exact Kd.R_set (Kd.R_grown1 h.ro rfl hg hne) hb1 (by decide) 2 v1
/-- The map of where from has been written. -/
theorem St.frm_ (h : St w0 w g bf ba vr vo st) (hg : w.grownBy w1 (some bf)) {m : IM} (hm : IsMap' w1 bf m.length m) : St w0 w1 g bf ba vr vo { st with frm := m } := by
  obtain ⟨Df, hDf⟩ : ∃ D, w.ownsMap Try.prog 3 (plainElem (H := Unit) Try.prog 3) bf st.frm.length D := ⟨_, h.mf⟩
  exact ⟨blk_grown h.blk hg (fun e => map_ne_blk hDf h.blk (by simpa using e.symm)), h.gg, h.gf, h.ga, h.ne, hm, h.ma.kept hg (fun e => h.ne (by simpa using e.symm)), Kd.R_grown1 h.rr rfl hg (map_ne_row hDf h.rr), Kd.R_grown1 h.ro rfl hg (map_ne_row hDf h.ro)⟩
theorem St.asked_ (h : St w0 w g bf ba vr vo st) (hg : w.grownBy w1 (some ba)) {f : Int → Int} {n : Nat} (hm : IsFn w1 ba n f) : St w0 w1 g bf ba vr vo { st with asked := f, cnt := n } := by
  obtain ⟨Da, hDa, _⟩ := h.ma
  exact ⟨blk_grown h.blk hg (fun e => map_ne_blk hDa h.blk (by simpa using e.symm)), h.gg, h.gf, h.ga, h.ne, h.mf.kept hg (fun e => h.ne (by simpa using e)), hm, Kd.R_grown1 h.rr rfl hg (map_ne_row hDa h.rr), Kd.R_grown1 h.ro rfl hg (map_ne_row hDa h.ro)⟩
/-- A map's own count of entries is bound enough. -/
theorem IsMap'.tight {b n : Nat} {m : IM} (h : IsMap' w b n m) : IsMap' w b m.length m := by
  obtain ⟨es, clock, hb, F, _, hD⟩ := h
  refine ⟨es, clock, hb, F, ?_, hD⟩
  have : Maps.size (asD m) = es.size := by rw [hD]; simp [Maps.size, length_sorted]
  rw [asD_size] at this
  omega
theorem IsMap'.up {b n : Nat} {m : IM} (h : IsMap' w b n m) : Up m := up_of_canon (World.ownsMap.canon h law3)
theorem IsFn.put {b n : Nat} {f : Int → Int} {D : DataW Unit} {k v : Int} (hw : (Lit.int .i64 k).wf = true) (hf : ∀ x, (Lit.int .i64 x).wf = true → D.atKey (.int .i64 x) (.lit (.int .i64 0)) = .lit (.int .i64 (f x))) (hD : IsMap D) (h : w1.ownsMap Try.prog 3 (plainElem (H := Unit) Try.prog 3) b n (D.put (.int .i64 k) (.lit (.int .i64 v)))) :
    IsFn w1 b n (upd f k v) := by
  refine ⟨_, h, fun x hx => ?_⟩
  by_cases e : x = k
  · subst e
    rw [atKey_put_same hD (by exact law3.key (keyOf_int_mk Try.underlying3 hw))]
    simp [upd]
  · rw [atKey_put_other (by simpa using e), hf x hx]
    simp [upd, e]
end

section
variable {w : World} {b n : Nat} {m : IM} {f : Int → Int} {k : Int}
theorem get_of_at {c : Int} (h : (asD m).atKey (.int .i64 k) (.lit (.int .i64 0)) = .lit (.int .i64 c)) : c = get m k := by
  rw [asD_at] at h
  unfold get
  cases hg : get? m k with
  | none => rw [hg] at h; simp at h; simp [h]
  | some v => rw [hg] at h; simp at h; simp [h]
theorem IsMap'.look (h : IsMap' w b n m) (hk : ok64 k = true) : (Instr.lookup 35 (.map (some b)) (.int .i64 k) false).run Try.prog w = .ok (.int .i64 (get m k)) w := by
  obtain ⟨c, hrun, hat, _⟩ := World.ownsMap.lookup_int h law3 Try.underlying35 Try.underlying3 (zero3 w) (keyOf_int_mk Try.underlying3 hk)
  rw [hrun, get_of_at hat]
theorem IsMap'.look_ok (h : IsMap' w b n m) (hk : ok64 k = true) : (Instr.lookup 35 (.map (some b)) (.int .i64 k) true).run Try.prog w = .ok (.tuple #[.int .i64 (get m k), .bool (hasK m k)]) w := by
  obtain ⟨v, ps, hrun, hv⟩ := World.ownsMap.look_ok h law3 Try.underlying35 (zero3 w) (plainElem_int Try.underlying3 (by decide)) (keyOf_int_mk Try.underlying3 hk)
  obtain ⟨c, rfl, hc, _⟩ := plainElem_int_inv Try.underlying3 hv
  rw [hrun, asD_has, get_of_at (congrArg Prod.fst hc)]
theorem IsFn.look (h : IsFn w b n f) (hk : ok64 k = true) : (Instr.lookup 35 (.map (some b)) (.int .i64 k) false).run Try.prog w = .ok (.int .i64 (f k)) w := by
  obtain ⟨D, hD, hf⟩ := h
  obtain ⟨c, hrun, hat, _⟩ := World.ownsMap.lookup_int hD law3 Try.underlying35 Try.underlying3 (zero3 w) (keyOf_int_mk Try.underlying3 hk)
  rw [hf k hk] at hat
  simp at hat
  rw [hrun, hat]
theorem wrap_ok (x : Int) : (Lit.int .i64 (wrap64 x)).wf = true := wrap64_wf x
end
section
variable {w : World} {ops : Array Oper} {rest : List Oper} {o : Oper} {a : Act} {Q : Exit → Act → World → Prop} {b n : Nat} {m : IM} {f : Int → Int} {k v : Int}
theorem wpList_putF (hg : o.guard = none) (mO x y : Operand) (hop : o.op = Op.mapUpdate 35 mO x y) (hm : a.eval mO = .map (some b)) (hown : IsFn w b n f) (hn : n < 1000000000) (hx : a.eval x = .int .i64 k) (hv : a.eval y = .int .i64 v) (hk : ok64 k = true) (hvw : ok64 v = true)
    (hK : ∀ w', IsFn w' b (n + 1) (upd f k v) → w.grownBy w' (some b) → wpList Try.prog ops Q rest (a.put o.dst undef) w') : wpList Try.prog ops Q (o :: rest) a w := by
  obtain ⟨D, hD, hf⟩ := hown
  exact wpList_mapUpdate_own w hg mO x y 35 hop 3 3 law3 Try.underlying35 _ b n D hm hD (by unfold maxLen; omega) _ _ _ hx hv (keyOf_int_mk Try.underlying3 hk) _ [] (plainElem_int Try.underlying3 hvw) (fun w' h1 h2 => hK w' (IsFn.put hk hf hD.isMap h1) h2)
theorem wpList_putM (hg : o.guard = none) (mO x y : Operand) (hop : o.op = Op.mapUpdate 35 mO x y) (hm : a.eval mO = .map (some b)) (hown : IsMap' w b n m) (hn : n < 1000000000) (hx : a.eval x = .int .i64 k) (hv : a.eval y = .int .i64 v) (hk : ok64 k = true) (hvw : ok64 v = true)
    (hK : ∀ w', IsMap' w' b (put k v m).length (put k v m) → w.grownBy w' (some b) → wpList Try.prog ops Q rest (a.put o.dst undef) w') : wpList Try.prog ops Q (o :: rest) a w := by
  refine wpList_mapUpdate_own w hg mO x y 35 hop 3 3 law3 Try.underlying35 _ b n (asD m) hm hown (by unfold maxLen; omega) _ _ _ hx hv (keyOf_int_mk Try.underlying3 hk) _ [] (plainElem_int Try.underlying3 hvw) (fun w' h1 h2 => hK w' (IsMap'.tight (n := n + 1) ?_) h2)
  rw [asD_put] at h1
  exact h1
theorem wpList_delM (hg : o.guard = none) (mO x : Operand) (hop : o.op = Op.call { callee := Callee.builtin Builtin.delete, args := #[mO, x], argTypes := #[35, 3] }) (hm : a.eval mO = .map (some b)) (hown : IsMap' w b n m) (hx : a.eval x = .int .i64 k) (hk : ok64 k = true)
    (hK : ∀ w', IsMap' w' b (del k m).length (del k m) → w.grownBy w' (some b) → wpList Try.prog ops Q rest (a.put o.dst (.tuple #[])) w') : wpList Try.prog ops Q (o :: rest) a w := by
  refine wpList_delete_own w hg mO x 35 3 hop 3 law3 Try.underlying35 _ b n (asD m) hm hown _ _ hx (keyOf_int_mk Try.underlying3 hk) (fun w' h1 h2 => hK w' (IsMap'.tight (n := n) ?_) h2.grown)
  rw [asD_del] at h1
  exact h1
end
section
variable {w0 w : World} {g bf ba : Nat} {vr vo : Value} {st : OSt}
theorem St.c0 (h : St w0 w g bf ba vr vo st) : w.cell? ⟨g, 0, none⟩ = some (.map (some bf)) := blk_cell h.blk 0
theorem St.c1 (h : St w0 w g bf ba vr vo st) : w.cell? ⟨g, 1, none⟩ = some (.map (some ba)) := blk_cell h.blk 1
theorem St.c2 (h : St w0 w g bf ba vr vo st) : w.cell? ⟨g, 2, none⟩ = some vr := blk_cell h.blk 2
theorem St.c3 (h : St w0 w g bf ba vr vo st) : w.cell? ⟨g, 3, none⟩ = some vo := blk_cell h.blk 3
theorem St.fz (h : St w0 w g bf ba vr vo st) (i : Nat) : w.frozen? ⟨g, i, none⟩ = false := blk_frozen h.blk i
end

/-- What a method leaves behind. -/
def Left_ (w0 : World) (g bf ba : Nat) (st : OSt) (e : Ending) (w' : World) : Prop := e = .returned (.tuple #[]) ∧ ∃ vr' vo', St w0 w' g bf ba vr' vo' st ∧ Below w0.heap.size w0 w'

set_option maxHeartbeats 1000000 in
theorem move_calls {w0 w : World} {g bf ba : Nat} {vr vo : Value} {st st' : OSt} (hs : St w0 w g bf ba vr vo st) (hB : Below w0.heap.size w0 w) (d f : Int) (h : mv st d f = some st') :
    Calls Try.prog 24 #[.pointer (some ⟨g, 0, none⟩), .int .i64 d, .int .i64 f] w (Left_ w0 g bf ba st') := by
  unfold mv at h
  split at h
  case isFalse => cases h
  rename_i hlt
  cases h
  have hc3 : w.cell? ⟨g, 3, none⟩ = some vo := blk_cell hs.blk 3
  have hl : st.out.length < 1000000 := hlt
  have hgl := hs.lt
  have HS := Aside0.mk hs
  have HB := Aside0.mk hB
  clear hs hB hlt
  go_enter Try.func24, Try.ntmps24
  go_wp2_with (first | (at_builtin; refine Kd.R_append k24 (w0 := w0) w0.heap.size rfl (.tmp 10) (.tmp 14) 22 24 (.agg #[(.int .i64 0), (.int .i64 0)]) 16 rfl Try.underlying22 info24 rfl (by decide) (by omega) vo st.out (⟨d, f⟩ : S24) [.int .i64 d, .int .i64 f] (fun _ => True) (fun _ => False) rfl rfl ?aP (fun _ hk => hk.elim) (fun _ _ => trivial) ?aO ?aB ?aS ?aL ?_; (case aP => exact k24_mkM _ _ _ (⟨d, f⟩ : S24)); (case aO => exact HS.out.ro); (case aB => exact HB.out); (case aS => exact HB.out.size); (case aL => omega); intro v1 w1 ho hb hg hat; obtain ⟨A1, c1, e1⟩ := Kd.R_slice ho; rw [List.length_append, List.length_singleton] at e1; subst e1; have hc1 : w1.cell? ⟨g, 3, none⟩ = some vo := blk_cell (blk_grown HS.out.blk hg (Kd.R_ne HS.out.ro HS.out.blk (by decide))) 3; have hf1 : w1.frozen? ⟨g, 3, none⟩ = false := blk_frozen (blk_grown HS.out.blk hg (Kd.R_ne HS.out.ro HS.out.blk (by decide))) 3; have H1 := Aside0.mk ho; have H2 := Aside0.mk hb; have H3 := Aside0.mk hg; have H4 := Aside0.mk hat; clear ho hb hg hat hc3))
  go_end0
  exact ⟨rfl, _, _, HS.out.out_ H3.out H1.out H4.out, below_set H2.out HS.out.gg⟩

theorem mv_keeps {st s : OSt} {d f : Int} (h : mv st d f = some s) : s.frm = st.frm ∧ s.asked = st.asked ∧ s.cnt = st.cnt ∧ s.ready = st.ready := by
  unfold mv at h
  split at h
  · cases h; exact ⟨rfl, rfl, rfl, rfl⟩
  · cases h

theorem push_some {st s : OSt} {x : Int} (h : push st x = some s) : st.ready.length < 1000000 ∧ s = { st with ready := st.ready ++ [x] } := by
  unfold push at h
  split at h
  · rename_i hl; cases h; exact ⟨hl, rfl⟩
  · cases h

set_option maxHeartbeats 2000000 in
theorem done_calls {w0 w : World} {g bf ba : Nat} {vr vo : Value} {st st' : OSt} (hs : St w0 w g bf ba vr vo st) (hB : Below w0.heap.size w0 w) (d : Int) (h : done st d = some st') :
    Calls Try.prog 23 #[.pointer (some ⟨g, 0, none⟩), .int .i64 d] w (Left_ w0 g bf ba st') := by
  unfold done at h
  split at h
  case isFalse => cases h
  rename_i hc
  obtain ⟨hd, hf, hcnt⟩ := hc
  obtain ⟨s1, hm, h⟩ := Option.bind_eq_some_iff.1 h
  obtain ⟨e1, e2, e3, e4⟩ := mv_keeps hm
  simp only at e1 e2 e3 e4 h
  have hl0 := hs.mf.look hd
  have hc0 := hs.c0
  generalize hfv : get st.frm d = f at *
  have HS := Aside0.mk hs
  have HB := Aside0.mk hB
  have Hm := Aside0.mk hm
  have E3 := Aside0.mk e3
  have Hcnt := Aside0.mk hcnt
  have Hd := Aside0.mk hd
  have Hf := Aside0.mk hf
  clear hs hB hm e1 e2 e3 e4 hcnt hfv hd hf
  by_cases h5 : hasK s1.frm f = true
  · rw [if_pos h5] at h
    by_cases h6 : upd s1.asked f (wrap64 (s1.asked f - 1)) f = 0
    · rw [if_pos h6] at h
      obtain ⟨hlen, rfl⟩ := push_some h
      simp only at hlen
      have h7 : (upd s1.asked f (wrap64 (s1.asked f - 1)) f == 0) = true := beq_iff_eq.2 h6
      clear h h6
      go_enter Try.func23, Try.ntmps23
      go_wp2_with (first | (at_delete; refine wpList_delM rfl (.tmp 16) (.tmp 17) rfl rfl HS.out.mf rfl Hd.out ?_; intro w1 hm1 hg1; have HS1 := Aside0.mk (HS.out.frm_ hg1 hm1); have HB1 := Aside0.mk (HB.out.grown hg1 HB.out.size (fun k hk => by cases hk; exact HS.out.gf)); clear hm1 hg1 hc0 hl0) | (go_at_call 24; refine (move_calls HS1.out HB1.out d f Hm.out).mono ?_; rintro e w2 ⟨rfl, vr2, vo2, hs2, hb2⟩; have hc0 := hs2.c0; have hc1 := hs2.c1; have hl0 := hs2.ma.look Hf.out; have HS2 := Aside0.mk hs2; have HB2 := Aside0.mk hb2; clear hs2 hb2) | (at_mapUpdate; refine wpList_putF rfl (.tmp 25) (.tmp 26) (.tmp 28) rfl rfl HS2.out.ma (by rw [E3.out]; exact Nat.lt_trans Hcnt.out (by decide)) rfl rfl Hf.out (wrap_ok _) ?_; intro w3 hm3 hg3; have hs3 := HS2.out.asked_ hg3 hm3; have hc0' := hs3.c0; have hc1' := hs3.c1; have hc2' := hs3.c2; have hl1 := hs3.mf.look_ok Hf.out; have hl2 := hs3.ma.look Hf.out; have hg3' := hs3.lt; have HS3 := Aside0.mk hs3; have HB3 := Aside0.mk (HB2.out.grown hg3 HB2.out.size (fun k hk => by cases hk; exact HS2.out.ga)); clear hs3 hm3 hg3 hc0 hc1 hl0) | (at_builtin; refine Kd.R_append (Kd.int .i64) (w0 := w0) w0.heap.size rfl (.tmp 52) (.tmp 54) 36 3 (.int .i64 0) 8 rfl Try.underlying36 info3 rfl (by decide) (by omega) vr2 s1.ready f [.int .i64 f] (fun _ => True) (fun _ => False) rfl rfl ?aP (fun _ hk => hk.elim) (fun _ _ => trivial) ?aO ?aB ?aS ?aL ?_; (case aP => exact rfl); (case aO => exact HS3.out.rr); (case aB => exact HB3.out); (case aS => exact HB3.out.size); (case aL => omega); intro v1 w4 ho hb hg hat; obtain ⟨A1, c1, e1⟩ := Kd.R_slice ho; rw [List.length_append, List.length_singleton] at e1; subst e1; have hc4 : w4.cell? ⟨g, 2, none⟩ = some vr2 := blk_cell (blk_grown HS3.out.blk hg (Kd.R_ne HS3.out.rr HS3.out.blk (by decide))) 2; have hf4 : w4.frozen? ⟨g, 2, none⟩ = false := blk_frozen (blk_grown HS3.out.blk hg (Kd.R_ne HS3.out.rr HS3.out.blk (by decide))) 2; have H1 := Aside0.mk ho; have H2 := Aside0.mk hb; have H3 := Aside0.mk hg; clear ho hb hg hat hc0' hc1' hc2'))
      go_end0
      exact ⟨rfl, _, _, HS3.out.ready_ H3.out H1.out, below_set H2.out HS3.out.gg⟩
    · rw [if_neg h6] at h
      have h7 : (upd s1.asked f (wrap64 (s1.asked f - 1)) f == 0) = false := beq_eq_false_iff_ne.2 h6
      cases h
      clear h6
      go_enter Try.func23, Try.ntmps23
      go_wp2_with (first | (at_delete; refine wpList_delM rfl (.tmp 16) (.tmp 17) rfl rfl HS.out.mf rfl Hd.out ?_; intro w1 hm1 hg1; have HS1 := Aside0.mk (HS.out.frm_ hg1 hm1); have HB1 := Aside0.mk (HB.out.grown hg1 HB.out.size (fun k hk => by cases hk; exact HS.out.gf)); clear hm1 hg1 hc0 hl0) | (go_at_call 24; refine (move_calls HS1.out HB1.out d f Hm.out).mono ?_; rintro e w2 ⟨rfl, vr2, vo2, hs2, hb2⟩; have hc0 := hs2.c0; have hc1 := hs2.c1; have hl0 := hs2.ma.look Hf.out; have HS2 := Aside0.mk hs2; have HB2 := Aside0.mk hb2; clear hs2 hb2) | (at_mapUpdate; refine wpList_putF rfl (.tmp 25) (.tmp 26) (.tmp 28) rfl rfl HS2.out.ma (by rw [E3.out]; exact Nat.lt_trans Hcnt.out (by decide)) rfl rfl Hf.out (wrap_ok _) ?_; intro w3 hm3 hg3; have hs3 := HS2.out.asked_ hg3 hm3; have hc0' := hs3.c0; have hc1' := hs3.c1; have hl1 := hs3.mf.look_ok Hf.out; have hl2 := hs3.ma.look Hf.out; have HS3 := Aside0.mk hs3; have HB3 := Aside0.mk (HB2.out.grown hg3 HB2.out.size (fun k hk => by cases hk; exact HS2.out.ga)); clear hs3 hm3 hg3 hc0 hc1 hl0))
      go_end0
      exact ⟨rfl, _, _, HS3.out, HB3.out⟩
  · rw [if_neg h5] at h
    have h5' : hasK s1.frm f = false := by simpa using h5
    cases h
    clear h5
    go_enter Try.func23, Try.ntmps23
    go_wp2_with (first | (at_delete; refine wpList_delM rfl (.tmp 16) (.tmp 17) rfl rfl HS.out.mf rfl Hd.out ?_; intro w1 hm1 hg1; have HS1 := Aside0.mk (HS.out.frm_ hg1 hm1); have HB1 := Aside0.mk (HB.out.grown hg1 HB.out.size (fun k hk => by cases hk; exact HS.out.gf)); clear hm1 hg1 hc0 hl0) | (go_at_call 24; refine (move_calls HS1.out HB1.out d f Hm.out).mono ?_; rintro e w2 ⟨rfl, vr2, vo2, hs2, hb2⟩; have hc0 := hs2.c0; have hc1 := hs2.c1; have hl0 := hs2.ma.look Hf.out; have HS2 := Aside0.mk hs2; have HB2 := Aside0.mk hb2; clear hs2 hb2) | (at_mapUpdate; refine wpList_putF rfl (.tmp 25) (.tmp 26) (.tmp 28) rfl rfl HS2.out.ma (by rw [E3.out]; exact Nat.lt_trans Hcnt.out (by decide)) rfl rfl Hf.out (wrap_ok _) ?_; intro w3 hm3 hg3; have hs3 := HS2.out.asked_ hg3 hm3; have hc0' := hs3.c0; have hl1 := hs3.mf.look_ok Hf.out; have HS3 := Aside0.mk hs3; have HB3 := Aside0.mk (HB2.out.grown hg3 HB2.out.size (fun k hk => by cases hk; exact HS2.out.ga)); clear hs3 hm3 hg3 hc0 hc1 hl0))
    go_end0
    exact ⟨rfl, _, _, HS3.out, HB3.out⟩
end Go.Proofs.Ytecpajjpeeaeaaa.POrd
