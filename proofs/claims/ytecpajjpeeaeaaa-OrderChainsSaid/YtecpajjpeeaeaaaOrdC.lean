/- The methods drain and ring of the orderer: each call does to it what the Lean functions drain and ring say. -/
import Derived.Test.YtecpajjpeeaeaaaOrdD
namespace Go.Proofs.Ytecpajjpeeaeaaa.POrd
open Go.RowKit Go.Maps Go.Proofs.YtecpajjpeeaeaaaW.PrintWords

set_option maxHeartbeats 2000000 in
theorem drain_calls (k : Nat) {w0 w : World} {g bf ba : Nat} {vr vo : Value} {st st' : OSt} (hs : St w0 w g bf ba vr vo st) (hB : Below w0.heap.size w0 w) (h : drain k st = some st') :
    Calls Try.prog 14 #[.pointer (some ⟨g, 0, none⟩)] w (Left_ w0 g bf ba st') := by
  have HS0 := Aside0.mk hs
  have HB0 := Aside0.mk hB
  have H0 := Aside0.mk h
  clear hs hB h
  go_enter Try.func14, Try.ntmps14
  go_wp2
  go_loopg [2, 3] k (fun kq v2 v3 w' => ∃ (st : OSt) (vr vo : Value), Aside0 (St w0 w' g bf ba vr vo st) ∧ Aside0 (Below w0.heap.size w0 w') ∧ Aside0 (drain kq st = some st') ∧ kq ≤ k)
  case atStart => exact ⟨st, vr, vo, HS0, HB0, H0, Nat.le_refl _⟩
  case round =>
    clear HS0 HB0 H0
    obtain ⟨s, vr1, vo1, HS, HB, H, HK⟩ := hrel
    cases gk with
    | zero => exact absurd H.out (by simp [drain])
    | succ k1 =>
      have h := H.out
      clear H
      simp only [drain] at h
      have hc2 := HS.out.c2
      have hf2 := HS.out.fz 2
      obtain ⟨A, c, hA, hlc, hC⟩ := Kd.R_reads HS.out.rr
      by_cases hp : 0 < s.ready.length
      · rw [if_pos hp] at h
        obtain ⟨s2, hd, h⟩ := Option.bind_eq_some_iff.1 h
        obtain ⟨n, hn⟩ : ∃ n, s.ready.length = n + 1 := ⟨s.ready.length - 1, by omega⟩
        rw [hn] at hA hlc hC hd
        have hmax := hC.2.1
        obtain ⟨ad, rfl, hcell⟩ := Kd.at_int hC (n : Int) (by omega) (by omega)
        rw [show ((n + 1 : Nat) : Int) - 1 = (n : Int) from by omega, show n + 1 - 1 = n from rfl] at hd
        simp only [Int.toNat_natCast] at hcell
        subst hA
        have hR := Kd.R_take (m := n) HS.out.rr (by omega)
        have HS2 := Aside0.mk (HS.out.ready_ (World.grownBy.refl _ _) hR)
        have HB2 := Aside0.mk (below_set (j := 2) (v := .slice (some ad) n c) HB.out HS.out.gg)
        have Hd := Aside0.mk hd
        have H := Aside0.mk h
        have Hn := Aside0.mk hn
        clear hR hd h hn hC hp
        go_wp2_with (go_at_call 23; refine (done_calls HS2.out HB2.out _ Hd.out).mono ?_; rintro e w2 ⟨rfl, vr2, vo2, hs2, hb2⟩; have HS3 := Aside0.mk hs2; have HB3 := Aside0.mk hb2; clear hs2 hb2 hc2 hf2 hcell)
        go_roundg k1
        case measure => omega
        case rel => exact ⟨s2, vr2, vo2, HS3, HB3, H, by omega⟩
      · rw [if_neg hp] at h
        have hz : s.ready.length = 0 := by omega
        rw [hz] at hA
        subst hA
        cases h
        clear hp hlc hC
        go_wp2
        go_end0
        exact ⟨rfl, _, _, HS.out, HB.out⟩

theorem ins_length (x : Int × Int) : ∀ m : IM, (ins x m).length = m.length + 1
  | [] => rfl
  | y :: r => by
    unfold ins
    split
    · rfl
    · simp [ins_length x r]
theorem turn_length (d sp : Int) (m : IM) (k : Int) : (turn d sp m k).length ≤ m.length + 1 := by
  unfold turn
  split
  · unfold put del
    rw [ins_length]
    exact Nat.succ_le_succ (List.length_filter_le _ _)
  · omega
theorem turns_length (d sp : Int) : ∀ (l : List Int) (m : IM), (l.foldl (turn d sp) m).length ≤ m.length + l.length
  | [], m => by simp
  | k :: r, m => by
    have h1 := turns_length d sp r (turn d sp m k)
    have h2 := turn_length d sp m k
    simp only [List.foldl_cons, List.length_cons]
    omega
theorem take_foldl (f : IM → Int → IM) (l : List Int) (m : IM) (j : Nat) (h : j < l.length) : (l.take (j + 1)).foldl f m = f ((l.take j).foldl f m) (rd l (j : Int)) := by
  rw [List.take_succ_eq_append_getElem h, List.foldl_append]
  simp [rd, h]
theorem rd_mem (l : List Int) (j : Nat) (h : j < l.length) : rd l (j : Int) ∈ l := by
  simp [rd, h]
theorem ReadsInt.mapped {w w1 : World} {k : IntKind} {A : Option Addr} {n b nn : Nat} {xs : List Int} {m : IM} (h : ReadsInt w k A n xs) (hm : IsMap' w b nn m) (hg : w.grownBy w1 (some b)) : ReadsInt w1 k A n xs := by
  refine ⟨h.1, h.2.1, fun hn => ?_⟩
  obtain ⟨ad, e, hc⟩ := h.2.2 hn
  refine ⟨ad, e, fun j hj => World.grownBy.cell hg (hc j hj) ?_⟩
  intro e1
  have h1 := hc j hj
  obtain ⟨es, clock, hb, _⟩ := hm
  have e2 : (ad.add j).block = b := by simpa using e1
  unfold World.cell? at h1
  rw [e2, hb] at h1
  cases h1
theorem keys_ok {w : World} {b n : Nat} {m : IM} (h : IsMap' w b n m) : ∀ x ∈ m.map (·.1), ok64 x = true := by
  have := intKeys_wf h Try.underlying3
  rw [asD_keys] at this
  exact this

set_option maxHeartbeats 2000000 in
theorem ring_calls {w0 w : World} {g bf ba : Nat} {vr vo : Value} {st st' : OSt} (hs : St w0 w g bf ba vr vo st) (hB : Below w0.heap.size w0 w) (d sp : Int) (h : ring st d sp = some st') :
    Calls Try.prog 15 #[.pointer (some ⟨g, 0, none⟩), .int .i64 d, .int .i64 sp] w (Left_ w0 g bf ba st') := by
  unfold ring at h
  split at h
  case isFalse => cases h
  rename_i hc
  obtain ⟨hd, hsp, hcnt, hfl⟩ := hc
  obtain ⟨s1, hm, h⟩ := Option.bind_eq_some_iff.1 h
  obtain ⟨e1, e2, e3, e4⟩ := mv_keeps hm
  obtain ⟨hlen, rfl⟩ := push_some h
  simp only at hlen
  have HS0 := Aside0.mk hs
  have HB0 := Aside0.mk hB
  have Hm := Aside0.mk hm
  have E1 := Aside0.mk e1
  have E3 := Aside0.mk e3
  have Hcnt := Aside0.mk hcnt
  have Hfl := Aside0.mk hfl
  have Hd := Aside0.mk hd
  have Hsp := Aside0.mk hsp
  clear hs hB h hm e1 e2 e3 e4 hcnt hd hsp hfl
  go_enter Try.func15, Try.ntmps15
  go_wp2_with (first | (go_at_call 24; refine (move_calls HS0.out HB0.out _ _ Hm.out).mono ?_; rintro e w1 ⟨rfl, vr1, vo1, hs1, hb1⟩; have hc0 := hs1.c0; have HS := Aside0.mk hs1; have HB := Aside0.mk hb1; clear hs1 hb1) | (go_at_call 13; refine (keysC _ _).mono ?_; rintro e w2 ⟨rfl, rfl⟩) | (go_at_call 12; refine (sortedC (b := bf) (Bm := w1.heap.size) (HS.out.alloc _).mf (by simp) (by simp) (by rw [E1.out]; exact Nat.le_of_lt Hfl.out)).mono ?_; rintro e w3 ⟨v3, rfl, hrow, hb3⟩; obtain ⟨A3, c3, rfl, hR3⟩ := own_reads hrow; have HR := Aside0.mk hR3; have HB3 := Aside0.mk hb3; clear hrow hb3 hR3))
  have hkw := Aside0.mk (keys_ok HS.out.mf)
  have hn := Aside0.mk (show s1.frm.length < 1000000 from by rw [E1.out]; exact Hfl.out)
  obtain ⟨keys, hkeys⟩ : ∃ keys, s1.frm.map (·.1) = keys := ⟨_, rfl⟩
  have hkl : keys.length = s1.frm.length := by rw [← hkeys]; simp
  rw [hkeys] at HR hkw
  have Hkeys := Aside0.mk hkeys
  have hmax := HR.out.2.1
  clear hkeys
  obtain ⟨n, hnn⟩ : ∃ n, s1.frm.length = n := ⟨_, rfl⟩
  rw [hnn] at hkl HR hmax
  have Hnn := Aside0.mk hnn
  have Hkl := Aside0.mk hkl
  clear hkl
  rw [hnn]
  clear hnn
  have HS1 := Aside0.mk ((HS.out.alloc (.cells #[.map (some bf)] 35)).below HB3.out)
  have HB1 := Aside0.mk (below_step (below_alloc HB.out (.cells #[.map (some bf)] 35)) HB3.out)
  clear HS0 HB0 HS HB HB3 hc0 Hm
  go_loopw [7, 19] (fun _ i wr => ∃ (j : Nat), i = .int .i64 j ∧ j ≤ n ∧ Aside0 (ReadsInt wr .i64 A3 n keys) ∧ Aside0 (Below w0.heap.size w0 wr) ∧ Aside0 (St w0 wr g bf ba vr1 vo1 { s1 with frm := (keys.take j).foldl (turn d sp) s1.frm })) (fun _ i _ => n - (intOf i).toNat)
  case atStart => exact ⟨0, rfl, Nat.zero_le _, HR, HB1, HS1⟩
  case round =>
    clear HS1 HB1 HR
    obtain ⟨j, rfl, hj, HR, HB, HS⟩ := hrel
    have hc0 := HS.out.c0
    by_cases hlt : j < n
    · have hlk : j < keys.length := by rw [Hkl.out]; exact hlt
      obtain ⟨ad, rfl, hcell⟩ := HR.out.at_ (j : Int) (by omega) (by omega)
      simp only [Int.toNat_natCast] at hcell
      have hkk := hkw.out _ (rd_mem keys j hlk)
      have hstep := take_foldl (turn d sp) keys s1.frm j hlk
      have hlen := turns_length d sp (keys.take j) s1.frm
      have hl2 : (keys.take j).length ≤ n := by rw [← Hkl.out]; exact List.length_take_le' ..
      generalize hmj : (keys.take j).foldl (turn d sp) s1.frm = mj at *
      generalize hkj : rd keys (j : Int) = kj at *
      have hl0 := HS.out.mf.look hkk
      simp only at hl0
      have hb : mj.length < 1000000000 := by have := hn.out; rw [Hnn.out] at hlen this; omega
      have Hk := Aside0.mk hkk
      have Hb := Aside0.mk hb
      have Hst := Aside0.mk hstep
      clear hkk hb hstep hmj hkj hlk hlen hl2
      by_cases hq : get mj kj = d
      · have hq' : (get mj kj == d) = true := beq_iff_eq.2 hq
        have Hq := Aside0.mk hq
        clear hq
        go_wp2_with (at_mapUpdate; refine wpList_putM rfl (.tmp 34) (.tmp 35) (.tmp 36) rfl rfl HS.out.mf Hb.out rfl rfl Hk.out Hsp.out ?_; intro w4 hm4 hg4; have HS4 := Aside0.mk (HS.out.frm_ hg4 hm4); have HB4 := Aside0.mk (HB.out.grown hg4 HB.out.size (fun k hk => by cases hk; exact HS.out.gf)); have HR4 := Aside0.mk (ReadsInt.mapped HR.out HS.out.mf hg4); clear hm4 hg4 hc0 hl0 hcell)
        go_roundw
        case rel => exact ⟨j + 1, by go_num, by omega, HR4, HB4, by rw [Hst.out]; unfold turn; rw [if_pos Hq.out]; exact HS4⟩
        case measure => simp [intOf]; omega
      · have hq' : (get mj kj == d) = false := beq_eq_false_iff_ne.2 hq
        have Hq := Aside0.mk hq
        clear hq
        go_wp2
        go_roundw
        case rel => exact ⟨j + 1, by go_num, by omega, HR, HB, by rw [Hst.out]; unfold turn; rw [if_neg Hq.out]; exact HS⟩
        case measure => simp [intOf]; omega
    · have hjn : j = n := by omega
      subst hjn
      rw [List.take_of_length_le (by rw [Hkl.out]; exact Nat.le_refl _)] at HS
      have hc1 := HS.out.c1
      have hc2 := HS.out.c2
      go_wp2_with (first | (at_mapUpdate; refine wpList_putF rfl (.tmp 41) (.tmp 42) (.const (.int .i64 0)) rfl rfl HS.out.ma (by rw [E3.out]; exact Nat.lt_trans Hcnt.out (by decide)) rfl rfl Hd.out (by decide) ?_; intro w4 hm4 hg4; have hs4 := HS.out.asked_ hg4 hm4; have hc2' := hs4.c2; have hg3' := hs4.lt; have HS4 := Aside0.mk hs4; have HB4 := Aside0.mk (HB.out.grown hg4 HB.out.size (fun k hk => by cases hk; exact HS.out.ga)); clear hs4 hm4 hg4 hc0 hc1 hc2) | (at_builtin; refine Kd.R_append (Kd.int .i64) (w0 := w0) w0.heap.size rfl (.tmp 47) (.tmp 49) 36 3 (.int .i64 0) 8 rfl Try.underlying36 info3 rfl (by decide) (by omega) vr1 s1.ready d [.int .i64 d] (fun _ => True) (fun _ => False) rfl rfl ?aP (fun _ hk => hk.elim) (fun _ _ => trivial) ?aO ?aB ?aS ?aL ?_; (case aP => exact rfl); (case aO => exact HS4.out.rr); (case aB => exact HB4.out); (case aS => exact HB4.out.size); (case aL => omega); intro v1 w5 ho hb hg hat; obtain ⟨A1, c1, e1⟩ := Kd.R_slice ho; rw [List.length_append, List.length_singleton] at e1; subst e1; have hc4 : w5.cell? ⟨g, 2, none⟩ = some vr1 := blk_cell (blk_grown HS4.out.blk hg (Kd.R_ne HS4.out.rr HS4.out.blk (by decide))) 2; have hf4 : w5.frozen? ⟨g, 2, none⟩ = false := blk_frozen (blk_grown HS4.out.blk hg (Kd.R_ne HS4.out.rr HS4.out.blk (by decide))) 2; have H1 := Aside0.mk ho; have H2 := Aside0.mk hb; have H3 := Aside0.mk hg; clear ho hb hg hat hc2'))
      go_end0
      have hfin := HS4.out.ready_ H3.out H1.out
      rw [← Hkeys.out] at hfin
      exact ⟨rfl, _, _, hfin, below_set H2.out HS4.out.gg⟩
end Go.Proofs.Ytecpajjpeeaeaaa.POrd
