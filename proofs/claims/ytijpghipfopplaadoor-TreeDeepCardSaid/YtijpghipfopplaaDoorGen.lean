/- slices.IndexFunc and slices.ContainsFunc over a row of structs that is read, for whatever predicate that may lay blocks of its own: proved once over any program and numbering, in the print's words. -/
import Derived.Shelf.SlicesQ.IndexFunc
import Derived.Test.YtijpghipfopplaaDoorWWords
import Derived.Test.YtijpghipfopplaaDoorWLast
import Derived.Test.YtijpghipfopplaaDoorWMore
namespace Go.Proofs.YtijpghipfopplaaDoor.Gen
open Go.Shelf Go.RowKit Go.Lib Go.Proofs Go.Proofs.YtijpghipfopplaaDoorW.PrintWords
variable {P : Program} {ρ : Ren} {α : Type}

/-- Where the first one is that a test likes; -1: nowhere. -/
def idx (f : α → Bool) : List α → Int
  | [] => -1
  | x :: r => if f x = true then 0 else if idx f r < 0 then -1 else idx f r + 1
theorem idx_ge (f : α → Bool) : ∀ l : List α, -1 ≤ idx f l
  | [] => by simp [idx]
  | x :: r => by have := idx_ge f r; unfold idx; split; · omega
                 split <;> omega
theorem idx_any (f : α → Bool) : ∀ l : List α, decide (0 ≤ idx f l) = l.any f
  | [] => by simp [idx]
  | x :: r => by
    have h1 := idx_any f r
    have h2 := idx_ge f r
    unfold idx
    cases hx : f x with
    | true => simp [hx]
    | false =>
      simp only [Bool.false_eq_true, if_false, List.any_cons, hx, Bool.false_or, ← h1]
      by_cases hn : idx f r < 0
      · rw [if_pos hn]; simp; omega
      · rw [if_neg hn]; simp; omega
theorem idx_none (f : α → Bool) : ∀ (l : List α), (∀ x ∈ l, f x = false) → idx f l = -1
  | [], _ => rfl
  | x :: r, h => by
    unfold idx
    rw [if_neg (by rw [h x (by simp)]; simp), idx_none f r (fun y hy => h y (by simp [hy]))]
    simp
theorem idx_hit (f : α → Bool) : ∀ (l : List α) (k : Nat) (x : α), l[k]? = some x → f x = true → (∀ j y, j < k → l[j]? = some y → f y = false) → idx f l = k
  | [], k, x, hk, _, _ => by simp at hk
  | y :: r, 0, x, hk, h, _ => by
    simp only [List.getElem?_cons_zero, Option.some.injEq] at hk
    subst hk
    unfold idx; rw [if_pos h]; rfl
  | y :: r, k + 1, x, hk, h, h0 => by
    have hx := h0 0 y (by omega) rfl
    have := idx_hit f r k x (by simpa using hk) h (fun j z hj hz => h0 (j + 1) z (by omega) (by simpa using hz))
    unfold idx
    rw [if_neg (by rw [hx]; simp), this, if_neg (by omega)]
    omega

/-- What is asked of a predicate: at each element, in each later world, it answers f, and what lay before stands. -/
def Likes (P : Program) (g : Nat) (lb : Array Value) (d : Kd α) (f : α → Bool) (xs : List α) (w : World) : Prop :=
  ∀ (W : World) (x : α) (cs : List Value), x ∈ xs → Below w.heap.size w W → d.K W x cs → Calls P g (#[.agg cs.toArray] ++ lb) W fun e w' => e = .returned (.bool (f x)) ∧ Below w.heap.size w w'
structure AsideG (p : Prop) : Prop where mk :: (out : p)

set_option maxHeartbeats 2000000 in
theorem indexFunc (L : SlLaysH0.n6 P ρ) (d : Kd α) (k : Nat) (hk : d.sz = k) (aE : ∀ w, (isAgg (ρ.t 23)).run P w = .ok true w) (zE : ∀ w, (Go.sizeOf (ρ.t 23)).run P w = .ok k w) (f : α → Bool) (g : Nat) (lb : Array Value) (eg : ∀ args w, (callFunc g args).run P w = .ok (.enter g args) w)
    (A : Option Addr) (c : Nat) (xs : List α) (w : World) (hC : d.C w A xs.length xs) (hp : Likes P g lb d f xs w) :
    Calls P (ρ.f 6) #[.slice A xs.length c, .func (.func g) #[] lb] w fun e w' => e = .returned (.int .i64 (idx f xs)) ∧ Below w.heap.size w w' := by
  have mixed := L.mixed; have t0 := L.t0; have a0 := L.a0; have z0 := L.z0; have v0 := L.v0; have t3 := L.t3; have a3 := L.a3; have z3 := L.z3; have v3 := L.v3; have t4 := L.t4; have a4 := L.a4; have z4 := L.z4; have v4 := L.v4; have t22 := L.t22; have a22 := L.a22; have z22 := L.z22; have v22 := L.v22; have t25 := L.t25; have a25 := L.a25; have z25 := L.z25; have v25 := L.v25
  have hbig := hC.2.1
  have HC := AsideG.mk hC
  have HP := AsideG.mk hp
  have HK := AsideG.mk hk
  clear hC hp hk
  obtain ⟨n, hn⟩ : ∃ n, xs.length = n := ⟨_, rfl⟩
  rw [hn] at hbig ⊢
  have HN := AsideG.mk hn
  clear hn
  obtain ⟨_, _, FG⟩ := L.f6
  go_enter FG, SlBodyH.n6_ntmps ρ
  go_wp2
  go_loopg [5, 8] n (fun gg _ s8 wr => ∃ kk : Nat, kk ≤ n ∧ n - kk ≤ gg ∧ s8 = .int .i64 kk ∧ AsideG (Below w.heap.size w wr) ∧ AsideG (∀ j y, j < kk → xs[j]? = some y → f y = false))
  case atStart => exact ⟨0, Nat.zero_le _, by omega, rfl, ⟨Below.refl _ w⟩, ⟨fun j y h _ => absurd h (Nat.not_lt_zero _)⟩⟩
  case round =>
    obtain ⟨kk, hkk, hg, rfl, BW, A0⟩ := hrel
    by_cases hlt : kk < n
    · have hltz : (kk : Int) < (n : Int) := by omega
      have hlx : kk < xs.length := by rw [HN.out]; exact hlt
      obtain ⟨ad, hA, hcell⟩ := HC.out.2.2 (by omega)
      subst hA
      obtain ⟨x, hx⟩ : ∃ x, xs[kk]? = some x := ⟨_, List.getElem?_eq_getElem hlx⟩
      obtain ⟨cs, hl, hK, hcc⟩ := hcell kk x hx
      rw [HK.out] at hl hcc
      have l2 : Sem.run P (loadCellsFrom (ad.add (kk * k)) 0 k #[]) wr = .ok cs.toArray wr := run_loadCellsFrom_list P _ _ cs k hl (fun i v hi => by
        rw [Addr.add_add]
        exact pw_cell_below BW.out (hcc i v hi))
      have hcall := HP.out wr x cs (List.mem_of_getElem? hx) BW.out (d.K_below BW.out hK)
      have HX := AsideG.mk hx
      clear hcell hl hK hcc hlx hx
      cases hq : f x with
      | true =>
        rw [hq] at hcall
        have HQ := AsideG.mk hq
        clear hq
        go_wp2_with (go_at_fn g; refine hcall.mono ?_; rintro e w' ⟨rfl, hb'⟩)
        go_ret
        refine ⟨?_, hb'⟩
        rw [idx_hit f xs kk x HX.out HQ.out A0.out]
        rfl
      | false =>
        rw [hq] at hcall
        have HQ := AsideG.mk hq
        clear hq
        go_wp2_with (go_at_fn g; refine hcall.mono ?_; rintro e w' ⟨rfl, hb'⟩)
        go_roundg (n - (kk + 1))
        case measure => omega
        case rel =>
          refine ⟨kk + 1, by omega, by omega, by go_num, ⟨hb'⟩, ⟨fun j y h hy => ?_⟩⟩
          by_cases e : j = kk
          · subst e
            rw [HX.out] at hy
            cases hy
            exact HQ.out
          · exact A0.out j y (by omega) hy
    · have hltz : ¬ (kk : Int) < (n : Int) := by omega
      have hkn : kk = n := by omega
      subst hkn
      go_wp2
      go_ret
      refine ⟨?_, BW.out⟩
      rw [idx_none f xs (fun x hx => by
        obtain ⟨j, hj⟩ := List.getElem?_of_mem hx
        exact A0.out j x (by rw [← HN.out]; exact (List.getElem?_eq_some_iff.1 hj).1) hj)]
      rfl
theorem containsFunc (L : SlLaysH0.n8 P ρ) (d : Kd α) (k : Nat) (hk : d.sz = k) (aE : ∀ w, (isAgg (ρ.t 23)).run P w = .ok true w) (zE : ∀ w, (Go.sizeOf (ρ.t 23)).run P w = .ok k w) (f : α → Bool) (g : Nat) (lb : Array Value) (eg : ∀ args w, (callFunc g args).run P w = .ok (.enter g args) w)
    (A : Option Addr) (c : Nat) (xs : List α) (w : World) (hC : d.C w A xs.length xs) (hp : Likes P g lb d f xs w) :
    Calls P (ρ.f 8) #[.slice A xs.length c, .func (.func g) #[] lb] w fun e w' => e = .returned (.bool (xs.any f)) ∧ Below w.heap.size w w' := by
  rw [← idx_any f xs]
  have mixed := L.mixed; have t0 := L.t0; have a0 := L.a0; have z0 := L.z0; have v0 := L.v0; have t3 := L.t3; have a3 := L.a3; have z3 := L.z3; have v3 := L.v3; have t4 := L.t4; have a4 := L.a4; have z4 := L.z4; have v4 := L.v4; have t22 := L.t22; have a22 := L.a22; have z22 := L.z22; have v22 := L.v22; have t25 := L.t25; have a25 := L.a25; have z25 := L.z25; have v25 := L.v25
  have e6 : ∀ args w, (callFunc (ρ.f 6) args).run P w = .ok (.enter (ρ.f 6) args) w := L.f6.enters rfl
  have hc6 := indexFunc { L with } d k hk aE zE f g lb eg A c xs w hC hp
  clear hC hp
  generalize xs.length = n at *
  generalize idx f xs = r at *
  obtain ⟨_, _, FG⟩ := L.f8
  go_enter FG, SlBodyH.n8_ntmps ρ
  go_wp2_with (go_at_fn (ρ.f 6); refine hc6.mono ?_; rintro e w' ⟨rfl, hb'⟩)
  go_ret
  exact ⟨rfl, hb'⟩
#print axioms containsFunc
end Go.Proofs.YtijpghipfopplaaDoor.Gen
