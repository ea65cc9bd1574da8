/- Plain words for the claim over order.Order: maps from ints to ints as rising lists, and the Lean function that Order computes. No walk. -/
import Derived.Test.YtecpajjpeeaeaaaPOrdx0
import Derived.Lib.SlKeysI
import Derived.Maps.Ext
namespace Go.Proofs.Ytecpajjpeeaeaaa.POrd
open Go.RowKit Go.Maps Go.Proofs.YtecpajjpeeaeaaaW.PrintWords

/-! ### maps of ints, as rising lists -/
abbrev IM := List (Int × Int)
def ins (x : Int × Int) : IM → IM
  | [] => [x]
  | y :: r => if x.1 < y.1 then x :: y :: r else y :: ins x r
def del (k : Int) (m : IM) : IM := m.filter fun p => !(p.1 == k)
def put (k v : Int) (m : IM) : IM := ins (k, v) (del k m)
def get? (m : IM) (k : Int) : Option Int := (m.find? fun p => p.1 == k).map (·.2)
def get (m : IM) (k : Int) : Int := (get? m k).getD 0
def hasK (m : IM) (k : Int) : Bool := (get? m k).isSome
def litOf (p : Int × Int) : Lit × DataW Unit := (.int .i64 p.1, .lit (.int .i64 p.2))
def asD (m : IM) : DataW Unit := .map (m.map litOf)

theorem asD_ins (x : Int × Int) : ∀ m : IM, DataW.insert (litOf x) (m.map litOf) = (ins x m).map litOf
  | [] => rfl
  | y :: r => by
    simp only [List.map_cons, DataW.insert, ins, litOf, Lit.before]
    by_cases h : x.1 < y.1
    · simp [h, litOf]
    · simp only [h, decide_false, Bool.false_eq_true, if_false, List.map_cons, litOf, List.cons.injEq, true_and]
      exact asD_ins x r
theorem sameKey_int (a b : Int) : (Lit.int .i64 a).sameKey (.int .i64 b) = (a == b) := by
  simp only [Lit.sameKey, true_and]; by_cases h : a = b <;> simp [h]
theorem asD_del (k : Int) (m : IM) : (asD m).del (.int .i64 k) = asD (del k m) := by
  simp only [asD, DataW.del, del, List.filter_map]
  congr 2
  apply List.filter_congr
  intro p _
  simp [Function.comp, litOf, sameKey_int]
theorem asD_put (k v : Int) (m : IM) : (asD m).put (.int .i64 k) (.lit (.int .i64 v)) = asD (put k v m) := by
  have h := asD_del k m
  simp only [asD, DataW.del, DataW.map.injEq] at h
  show DataW.map (DataW.insert (litOf (k, v)) _) = _
  rw [h, asD_ins]; rfl
theorem asD_has (m : IM) (k : Int) : has (asD m) (.int .i64 k) = hasK m k := by
  show ((m.map litOf).any fun p => p.1.sameKey (.int .i64 k)) = _
  induction m with
  | nil => rfl
  | cons y r ih =>
    simp only [List.map_cons, List.any_cons, ih, hasK, get?, List.find?_cons, litOf, sameKey_int]
    by_cases h : y.1 = k
    · simp [h]
    · have : (y.1 == k) = false := by simpa using h
      simp [this]
theorem asD_at (m : IM) (k : Int) (z : DataW Unit) : (asD m).atKey (.int .i64 k) z = match get? m k with | some v => .lit (.int .i64 v) | none => z := by
  simp only [asD, DataW.atKey]
  induction m with
  | nil => rfl
  | cons y r ih =>
    by_cases h : y.1 = k
    · simp [get?, litOf, sameKey_int, h]
    · have h1 : (y.1 == k) = false := by simpa using h
      have h2 : get? (y :: r) k = get? r k := by simp [get?, h1]
      rw [h2, ← ih]
      simp [litOf, sameKey_int, h1]
theorem asD_size (m : IM) : Maps.size (asD m) = m.length := by simp [asD, Maps.size]
theorem asD_keys (m : IM) : intKeys (asD m) = m.map (·.1) := by simp [asD, intKeys, litOf, Go.intOf]
/-- What every reading of such a map is. -/
def Up (m : IM) : Prop := m.Pairwise fun p q => p.1 < q.1
theorem up_of_canon {m : IM} (h : Canon (asD m)) : Up m := by
  obtain ⟨es, he, hp, _⟩ := h
  simp only [asD, DataW.map.injEq] at he
  subst he
  simp only [List.pairwise_map, litOf, Lit.before, decide_eq_true_eq] at hp
  exact hp
theorem keys_sorted {m : IM} (h : Up m) : (m.map (·.1)).mergeSort leI = m.map (·.1) := by
  refine List.mergeSort_of_pairwise (le := leI) ?_
  rw [List.pairwise_map]
  exact h.imp fun {a b} hab => by simp only [leI, decide_eq_true_eq]; omega
theorem get?_mem {m : IM} (h : Up m) {p : Int × Int} (hp : p ∈ m) : get? m p.1 = some p.2 := by
  induction m with
  | nil => simp at hp
  | cons y r ih =>
    obtain ⟨h1, h2⟩ := List.pairwise_cons.1 h
    rcases List.mem_cons.1 hp with rfl | hp
    · simp [get?]
    · have hne : (y.1 == p.1) = false := by have := h1 p hp; simp; omega
      have := ih h2 hp
      simpa [get?, List.find?_cons, hne] using this

/-! ### what Order computes -/
def ok64 (x : Int) : Bool := (Lit.int .i64 x).wf
structure OSt where
  frm : IM
  asked : Int → Int
  cnt : Nat
  ready : List Int
  out : List S24
def BIG : Nat := 1000000
def upd (f : Int → Int) (k v : Int) : Int → Int := fun x => if x = k then v else f x
def mv (st : OSt) (d frm : Int) : Option OSt := if st.out.length < BIG then some { st with out := st.out ++ [⟨d, frm⟩] } else none
def push (st : OSt) (x : Int) : Option OSt := if st.ready.length < BIG then some { st with ready := st.ready ++ [x] } else none
/-- (*orderer).done -/
def done (st : OSt) (d : Int) : Option OSt :=
  if ok64 d = true ∧ ok64 (get st.frm d) = true ∧ st.cnt < BIG then
    (mv { st with frm := del d st.frm } d (get st.frm d)).bind fun s =>
      let f := get st.frm d
      let s2 : OSt := { s with asked := upd s.asked f (wrap64 (s.asked f - 1)), cnt := s.cnt + 1 }
      if hasK s2.frm f = true then (if s2.asked f = 0 then push s2 f else some s2) else some s2
  else none
/-- (*orderer).drain -/
def drain : Nat → OSt → Option OSt
  | 0, _ => none
  | k + 1, st => if 0 < st.ready.length then (done { st with ready := st.ready.take (st.ready.length - 1) } (rd st.ready ((st.ready.length : Int) - 1))).bind (drain k) else some st
/-- the loop of (*orderer).ring -/
def turn (d spare : Int) (m : IM) (k : Int) : IM := if get m k = d then put k spare m else m
/-- (*orderer).ring -/
def ring (st : OSt) (d spare : Int) : Option OSt :=
  if ok64 d = true ∧ ok64 spare = true ∧ st.cnt < BIG ∧ st.frm.length < BIG then
    (mv st spare d).bind fun s => push { s with frm := (s.frm.map (·.1)).foldl (turn d spare) s.frm, asked := upd s.asked d 0, cnt := s.cnt + 1 } d
  else none
/-- the first loop: nothing, where moves are refused -/
def fill (spare : Int) : List S24 → IM → Option (Option IM)
  | [], m => some (some m)
  | x :: r, m => if ok64 x.f0 = true ∧ ok64 x.f1 = true ∧ m.length < BIG then (if hasK m x.f0 = true ∨ x.f0 = spare ∨ x.f1 = spare then some none else fill spare r (put x.f0 x.f1 m)) else none
/-- how many ask a place -/
def askedBy (m : IM) (x : Int) : Int := (m.countP fun p => !(p.1 == p.2) && p.2 == x : Nat)
def rings (spare : Int) : Nat → OSt → Option OSt
  | 0, _ => none
  | k + 1, st => match st.frm with
    | [] => some st
    | p :: _ => ((ring st p.1 spare).bind (drain 100000)).bind (rings spare k)
def order_Order.f (l : List S24) (spare : Int) : Option (List S24 × Int) :=
  (fill spare l []).bind fun o => match o with
    | none => some ([], 1)
    | some m =>
      let m1 := m.filter fun p => !(p.1 == p.2)
      ((drain 100000 { frm := m1, asked := askedBy m, cnt := m.length, ready := (m1.map (·.1)).filter fun k => askedBy m k == 0, out := [] }).bind (rings spare 100000)).map fun s => (s.out, 0)
end Go.Proofs.Ytecpajjpeeaeaaa.POrd
