/- Plain lemmas: what Order's range over a map's copy has done, as a function of what is still to come; what is ready at the start. -/
import Derived.Test.YtecpajjpeeaeaaaOrdA
namespace Go.Proofs.Ytecpajjpeeaeaaa.POrd
open Go.RowKit Go.Maps Go.Proofs.YtecpajjpeeaeaaaW.PrintWords

def cut (left : Lit → Bool) (x : Int) : Lit → Bool := fun z => left z && !z.sameKey (.int .i64 x)
def keepL (m : IM) (left : Lit → Bool) : IM := m.filter fun p => !(p.1 == p.2) || left (.int .i64 p.1)
def askL (m : IM) (left : Lit → Bool) (y : Int) : Int := (m.countP fun p => !(p.1 == p.2) && p.2 == y && !left (.int .i64 p.1) : Nat)
theorem cut_at (left : Lit → Bool) (x y : Int) : cut left x (.int .i64 y) = (left (.int .i64 y) && !(y == x)) := by simp only [cut, sameKey_int]
theorem hasK_mem {m : IM} {p : Int × Int} (hp : p ∈ m) : hasK m p.1 = true := by
  unfold hasK get?
  rw [Option.isSome_map, List.find?_isSome]
  exact ⟨p, hp, by simp⟩
theorem get?_val {m : IM} (hu : Up m) {x c : Int} (h : get? m x = some c) {p : Int × Int} (hp : p ∈ m) (e : p.1 = x) : p.2 = c := by
  have := get?_mem hu hp
  rw [e, h] at this
  exact (Option.some.inj this).symm
theorem get?_in {m : IM} {x c : Int} (h : get? m x = some c) : (x, c) ∈ m := by
  unfold get? at h
  obtain ⟨p, hp, rfl⟩ := Option.map_eq_some_iff.1 h
  have h1 := List.find?_some hp
  have h2 := List.mem_of_find?_eq_some hp
  simp only [beq_iff_eq] at h1
  subst h1
  exact h2
theorem keepL_start (m : IM) : keepL m (has (asD m)) = m := by
  refine List.filter_eq_self.2 fun p hp => ?_
  rw [asD_has, hasK_mem hp]; simp
theorem askL_start (m : IM) (y : Int) : askL m (has (asD m)) y = 0 := by
  unfold askL
  rw [List.countP_eq_zero.2 (fun p hp => by rw [asD_has, hasK_mem hp]; simp)]
  rfl
theorem keepL_same {m : IM} (hu : Up m) {left : Lit → Bool} {x : Int} (hx : get? m x = some x) : del x (keepL m left) = keepL m (cut left x) := by
  unfold del keepL
  rw [List.filter_filter]
  refine List.filter_congr fun p hp => ?_
  rw [cut_at]
  by_cases e : p.1 = x
  · have := get?_val hu hx hp e
    simp [e, this]
  · have e' : (p.1 == x) = false := by simpa using e
    simp [e']
theorem keepL_diff {m : IM} (hu : Up m) {left : Lit → Bool} {x c : Int} (hx : get? m x = some c) (hne : x ≠ c) : keepL m (cut left x) = keepL m left := by
  unfold keepL
  refine List.filter_congr fun p hp => ?_
  rw [cut_at]
  by_cases e : p.1 = x
  · have := get?_val hu hx hp e
    simp [e, this, hne]
  · have e' : (p.1 == x) = false := by simpa using e
    simp [e']
theorem askL_same {m : IM} (hu : Up m) {left : Lit → Bool} {x : Int} (hx : get? m x = some x) : askL m (cut left x) = askL m left := by
  funext y
  unfold askL
  congr 1
  refine List.countP_congr fun p hp => ?_
  rw [cut_at]
  by_cases e : p.1 = x
  · have := get?_val hu hx hp e
    simp [e, this]
  · have e' : (p.1 == x) = false := by simpa using e
    simp [e']
theorem countP_flip {f g : Int × Int → Bool} {x : Int} : ∀ {m : IM}, Up m → (∀ p ∈ m, p.1 ≠ x → g p = f p) → (∀ p ∈ m, p.1 = x → f p = false ∧ g p = true) → (∃ p ∈ m, p.1 = x) → m.countP g = m.countP f + 1
  | [], _, _, _, h => by obtain ⟨p, hp, _⟩ := h; simp at hp
  | y :: r, hu, h1, h2, h3 => by
    obtain ⟨u1, u2⟩ := List.pairwise_cons.1 hu
    by_cases e : y.1 = x
    · obtain ⟨a, b⟩ := h2 y (by simp) e
      have hr : r.countP g = r.countP f := by
        refine List.countP_congr fun p hp => ?_
        rw [h1 p (by simp [hp]) (fun e2 => by have := u1 p hp; omega)]
      simp [a, b, hr]
    · have hy := h1 y (by simp) e
      have := countP_flip u2 (fun p hp => h1 p (by simp [hp])) (fun p hp => h2 p (by simp [hp])) (by
        obtain ⟨p, hp, e2⟩ := h3
        rcases List.mem_cons.1 hp with rfl | hp
        · exact absurd e2 e
        · exact ⟨p, hp, e2⟩)
      simp only [List.countP_cons, hy, this]
      omega
theorem askL_diff {m : IM} (hu : Up m) {left : Lit → Bool} {x c : Int} (hx : get? m x = some c) (hne : x ≠ c) (hl : left (.int .i64 x) = true) : askL m (cut left x) = upd (askL m left) c (askL m left c + 1) := by
  funext y
  unfold upd
  by_cases hy : y = c
  · rw [if_pos hy]
    subst hy
    unfold askL
    rw [countP_flip (f := fun p => !(p.1 == p.2) && p.2 == y && !left (.int .i64 p.1)) (x := x) hu]
    · omega
    · intro p hp hpx
      have e' : (p.1 == x) = false := by simpa using hpx
      rw [cut_at]; simp [e']
    · intro p hp hpx
      have hv := get?_val hu hx hp hpx
      simp only [cut_at]
      simp [hpx, hv, hl, hne]
    · exact ⟨_, get?_in hx, rfl⟩
  · rw [if_neg hy]
    unfold askL
    congr 1
    refine List.countP_congr fun p hp => ?_
    rw [cut_at]
    by_cases e : p.1 = x
    · have hv := get?_val hu hx hp e
      have : (c == y) = false := by simp; omega
      simp [hv, this]
    · have e' : (p.1 == x) = false := by simpa using e
      simp [e']
theorem askL_le (m : IM) (left : Lit → Bool) (y : Int) : 0 ≤ askL m left y ∧ askL m left y ≤ m.length := by
  unfold askL
  have := List.countP_le_length (p := fun p : Int × Int => !(p.1 == p.2) && p.2 == y && !left (.int .i64 p.1)) (l := m)
  omega
theorem keepL_end {m : IM} {left : Lit → Bool} (h : ∀ kl, left kl = false) : keepL m left = m.filter fun p => !(p.1 == p.2) := by
  unfold keepL
  refine List.filter_congr fun p _ => ?_
  rw [h]; simp
theorem askL_end {m : IM} {left : Lit → Bool} (h : ∀ kl, left kl = false) : askL m left = askedBy m := by
  funext y
  unfold askL askedBy
  congr 1
  refine List.countP_congr fun p _ => ?_
  rw [h]; simp
theorem fill_length {a : Int} : ∀ {l : List S24} {m m' : IM}, m.length ≤ BIG → fill a l m = some (some m') → m'.length ≤ BIG
  | [], m, m', hm, h => by simp only [fill, Option.some.injEq] at h; subst h; exact hm
  | x :: r, m, m', hm, h => by
    simp only [fill] at h
    split at h
    case isFalse => cases h
    rename_i hok
    split at h
    · cases h
    · refine fill_length ?_ h
      have : (put x.f0 x.f1 m).length ≤ m.length + 1 := by
        unfold put del
        have h1 : ∀ (q : Int × Int) (m : IM), (ins q m).length = m.length + 1 := by
          intro q m
          induction m with
          | nil => rfl
          | cons y r ih => unfold ins; split <;> simp [ih]
        rw [h1]
        exact Nat.succ_le_succ (List.length_filter_le _ _)
      have := hok.2.2
      omega
end Go.Proofs.Ytecpajjpeeaeaaa.POrd
