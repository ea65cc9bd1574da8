/- The library's functions that Order calls (maps.Keys, slices.Sorted, slices.Collect, slices.Min, maps.Clone), at this translation, by the shelf's contracts. -/
import Derived.Test.YtecpajjpeeaeaaaOrdB
import Derived.Test.YtecpajjpeeaeaaaShelf1
namespace Go.Proofs.Ytecpajjpeeaeaaa.POrd
open Go.RowKit Go.Maps Go.Sort Go.Shelf Go.Proofs Go.Proofs.YtecpajjpeeaeaaaW.PrintWords

theorem keysC (mb : Option Nat) (w : World) : Calls Try.prog 13 #[.map mb] w fun e w' => e = .returned (.func (.func 22) #[] #[.pointer (some ⟨w.heap.size, 0, none⟩)]) ∧ w' = w.alloc (.cells #[.map mb] 35) :=
  (callsIn_wide (n := 5)).1 (AnyZI.keys_in Try.keysA Fence.wide 5 trivial rfl mb w)
theorem sortsA (m : Nat) : AnyZI.SortsIn Try.prog Try.sortedA_ren Fence.wide m :=
  ⟨fun blk off cap ss W hH hblk hsz => callsIn_wide.2 (AnyM.slices_Sort_int Try.sortA blk off cap ss W hH hblk hsz),
   fun p cap W => callsIn_wide.2 (AnyM.slices_Sort_int_none Try.sortA p cap W)⟩
theorem seqK {b n : Nat} {m : IM} {Bm : Nat} {w : World} (h : IsMap' w b n m) (hBm : Bm < w.heap.size) (hc : w.cell? ⟨Bm, 0, none⟩ = some (.map (some b))) : SeqGives Fence.wide 2 Try.prog 22 #[.pointer (some ⟨Bm, 0, none⟩)] encZ (fun ss => ss.Perm (m.map (·.1))) m.length w := by
  have := AnyZI.keys_gives (ρ := Try.keysA_ren) (H := Unit) { Try.keysA with } Fence.wide 2 trivial rfl (by omega) Bm b n (asD m) w hBm hc h
  rw [asD_keys, asD_size] at this
  exact this
theorem sortedC {b n : Nat} {m : IM} {Bm : Nat} {w : World} (h : IsMap' w b n m) (hBm : Bm < w.heap.size) (hc : w.cell? ⟨Bm, 0, none⟩ = some (.map (some b))) (hl : m.length ≤ BIG) :
    Calls Try.prog 12 #[.func (.func 22) #[] #[.pointer (some ⟨Bm, 0, none⟩)]] w fun e w' => ∃ v : Value, e = .returned v ∧ w'.ownsRow w.heap.size 3 1 v m.length (nums .i64 (m.map (·.1))) ∧ Below w.heap.size w w' := by
  have hl' : m.length ≤ 1000000 := hl
  refine ((callsIn_wide (n := 5)).1 (AnyZI.sorted_in Try.sortedA Fence.wide 5 trivial trivial trivial trivial rfl (by omega) (sortsA _) (enters_of Try.func21 (by kernel_rfl) rfl) 22 #[.pointer (some ⟨Bm, 0, none⟩)] trivial (enters_of Try.func22 (by kernel_rfl) rfl) _ m.length (by unfold maxLen; omega) (by omega) w (seqK h hBm hc))).mono ?_
  rintro e w' ⟨v, ss, he, hp, hrow, _, hb⟩
  refine ⟨v, he, ?_, hb⟩
  have e1 : ss.mergeSort leI = m.map (·.1) := (mergeSort_of_perm_i hp).trans (keys_sorted h.up)
  have e2 : ss.length = m.length := by rw [hp.length_eq]; simp
  rw [e1, e2] at hrow
  exact hrow
theorem collectC {b n : Nat} {m : IM} {Bm : Nat} {w : World} (h : IsMap' w b n m) (hBm : Bm < w.heap.size) (hc : w.cell? ⟨Bm, 0, none⟩ = some (.map (some b))) (hl : m.length ≤ BIG) :
    Calls Try.prog 17 #[.func (.func 22) #[] #[.pointer (some ⟨Bm, 0, none⟩)]] w fun e w' => ∃ (v : Value) (ss : List Int), e = .returned v ∧ ss.Perm (m.map (·.1)) ∧ w'.ownsRow w.heap.size 3 1 v ss.length (nums .i64 ss) ∧ Below w.heap.size w w' := by
  have hl' : m.length ≤ 1000000 := hl
  refine ((callsIn_wide (n := 4)).1 (AnyZI.collect_in Try.collectA Fence.wide 4 trivial trivial rfl (by omega) 22 #[.pointer (some ⟨Bm, 0, none⟩)] trivial (enters_of Try.func22 (by kernel_rfl) rfl) _ m.length (by unfold maxLen; omega) (by omega) w (seqK h hBm hc))).mono ?_
  rintro e w' ⟨v, ss, he, hp, hrow, _, hb⟩
  exact ⟨v, ss, he, hp, hrow, hb⟩
theorem foldl_min (l : List Int) : ∀ a : Int, (l.foldl min a = a ∨ l.foldl min a ∈ l) ∧ l.foldl min a ≤ a ∧ ∀ x ∈ l, l.foldl min a ≤ x := by
  induction l with
  | nil => intro a; simp
  | cons y r ih =>
    intro a
    obtain ⟨h1, h2, h3⟩ := ih (min a y)
    simp only [List.foldl_cons]
    refine ⟨?_, by omega, fun x hx => ?_⟩
    · rcases h1 with h1 | h1
      · rw [h1]
        by_cases hay : a ≤ y
        · left; omega
        · right; rw [show min a y = y from by omega]; simp
      · right; simp [h1]
    · rcases List.mem_cons.1 hx with rfl | hx
      · omega
      · exact h3 x hx
theorem minOf_head {p : Int × Int} {r : IM} (hu : Up (p :: r)) {ss : List Int} (hp : ss.Perm ((p :: r).map (·.1))) : Lib.minOf ss = p.1 := by
  have hmem : ∀ x, x ∈ ss ↔ x ∈ (p :: r).map (·.1) := fun x => hp.mem_iff
  have hlow : ∀ x ∈ (p :: r).map (·.1), p.1 ≤ x := by
    intro x hx
    rw [List.map_cons] at hx
    rcases List.mem_cons.1 hx with e | hx'
    · omega
    · obtain ⟨q, hq, rfl⟩ := List.mem_map.1 hx'
      have := (List.pairwise_cons.1 hu).1 _ hq
      omega
  cases ss with
  | nil => simp at hp
  | cons y q =>
    obtain ⟨h1, h2, h3⟩ := foldl_min (y :: q) y
    have hm : Lib.minOf (y :: q) ∈ y :: q := by
      show (y :: q).foldl min y ∈ y :: q
      rcases h1 with h1 | h1
      · rw [h1]; simp
      · exact h1
    have hle : Lib.minOf (y :: q) ≤ p.1 := h3 _ ((hmem _).2 (by simp))
    have := hlow _ ((hmem _).1 hm)
    omega
theorem minC {w : World} {base : Nat} {v : Value} {ss : List Int} (h : w.ownsRow base 3 1 v ss.length (nums .i64 ss)) (hne : 0 < ss.length) : Calls Try.prog 16 #[v] w fun e w' => e = .returned (.int .i64 (Lib.minOf ss)) ∧ w' = w := by
  obtain ⟨g, cap, rfl, _, _⟩ := h.form hne
  obtain ⟨A, c, e, hR⟩ := own_reads h
  cases e
  obtain ⟨ad, e2, hc⟩ := hR.2.2 hne
  cases e2
  refine (Any.slices_Min_int Try.lays114 g 0 ss.length cap ss w hne (Nat.le_refl _) hR.2.1 (fun j hj => ?_)).mono ?_
  · have := hc j hj
    rw [add_plain] at this
    rw [Nat.zero_add]
    exact this
  · rintro e w' ⟨rfl, rfl⟩
    rw [List.take_of_length_le (Nat.le_refl _)]
    exact ⟨rfl, rfl⟩
theorem cloneC {b n : Nat} {m : IM} {w : World} (h : IsMap' w b n m) : Calls Try.prog 11 #[.map (some b)] w fun e w' => e = .returned (.map (some w.heap.size)) ∧ IsMap' w' w.heap.size n m ∧ IsMap' w' b n m ∧ Below w.heap.size w w' :=
  AnyW.maps_Clone_owns Try.cloneA 3 _ b n (asD m) w h
end Go.Proofs.Ytecpajjpeeaeaaa.POrd
