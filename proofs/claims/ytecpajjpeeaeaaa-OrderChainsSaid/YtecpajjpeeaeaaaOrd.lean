/- order.Order returns what the Lean function order_Order.f says. -/
import Derived.Test.YtecpajjpeeaeaaaOrdC
import Derived.Test.YtecpajjpeeaeaaaOrdE
import Derived.Deep.QuietTactic
import Derived.BigQuiet
import Derived.StillTailTactics
namespace Go.Proofs.Ytecpajjpeeaeaaa.POrd
open Go.RowKit Go.Maps Go.Proofs.YtecpajjpeeaeaaaW.PrintWords

theorem st0 (w : World) : St w (((w.alloc (.map #[] 0)).alloc (.map #[] 0)).alloc (.cells #[.map (some w.heap.size), .map (some (w.heap.size + 1)), .slice none 0 0, .slice none 0 0] 38)) (w.heap.size + 1 + 1) w.heap.size (w.heap.size + 1) (.slice none 0 0) (.slice none 0 0) { frm := [], asked := fun _ => 0, cnt := 0, ready := [], out := [] } := by
  have h1 : IsMap' (w.alloc (.map #[] 0)) w.heap.size 0 [] := World.ownsMap_made w Try.prog 3 _
  have h2 : (((w.alloc (.map #[] 0))).alloc (.map #[] 0)).ownsMap Try.prog 3 (plainElem (H := Unit) Try.prog 3) (w.heap.size + 1) 0 (.map []) := by
    have := World.ownsMap_made (w.alloc (.map #[] 0)) Try.prog 3 (plainElem (H := Unit) Try.prog 3)
    simpa using this
  refine ⟨by simpa using blk_new ((w.alloc (.map #[] 0)).alloc (.map #[] 0)) (.cells #[.map (some w.heap.size), .map (some (w.heap.size + 1)), .slice none 0 0, .slice none 0 0] 38), by omega, by omega, by omega, by omega, (h1.kept (World.grownBy_alloc _ _ none) (by simp)).kept (World.grownBy_alloc _ _ none) (by simp), ⟨_, h2.alloc _, fun x _ => rfl⟩, Kd.R_nil _ _ _ _ _, Kd.R_nil _ _ _ _ _⟩

theorem below_of_grown {w w1 : World} (h : w.grownBy w1 none) : Below w.heap.size w w1 := ⟨h.os, h.tape, h.output, h.size, fun i hi => h.block i hi (by simp)⟩
theorem add_block (a : Addr) (j : Nat) : (a.add j).block = a.block := by unfold Addr.add; split <;> rfl
theorem ReadsInt.grown {w w1 : World} {k : IntKind} {A : Option Addr} {n : Nat} {xs : List Int} {row : Option Nat} (h : ReadsInt w k A n xs) (hg : w.grownBy w1 row) (hne : ∀ ad, A = some ad → some ad.block ≠ row) : ReadsInt w1 k A n xs :=
  ⟨h.1, h.2.1, fun hn => by
    obtain ⟨ad, e, hc⟩ := h.2.2 hn
    exact ⟨ad, e, fun j hj => World.grownBy.cell hg (hc j hj) (by rw [add_block]; exact hne ad e)⟩⟩
/-- The range over the map's copy. -/
def Rel2 (w : World) (g bf ba bc r : Nat) (m : IM) (wx : World) : Prop := ∃ (left : Lit → Bool) (cnt q : Nat), q + cnt ≤ m.length ∧ Below w.heap.size w wx ∧ wx.ranges Try.prog 3 (plainElem (H := Unit) Try.prog 3) bc r m.length (asD m) left cnt ∧ St w wx g bf ba (.slice none 0 0) (.slice none 0 0) { frm := keepL m left, asked := askL m left, cnt := q, ready := [], out := [] }
/-- The loop over the sorted keys. -/
def Rel3 (w : World) (g bf ba : Nat) (m1 : IM) (ak : Int → Int) (q : Nat) (A3 : Option Addr) (n1 : Nat) (keys : List Int) (i : Value) (wx : World) : Prop := ∃ (i1 : Nat) (vr : Value), i = .int .i64 i1 ∧ i1 ≤ n1 ∧ Below w.heap.size w wx ∧ ReadsInt wx .i64 A3 n1 keys ∧ (∀ ad, A3 = some ad → some ad.block ≠ vr.ownBlock) ∧ St w wx g bf ba vr (.slice none 0 0) { frm := m1, asked := ak, cnt := q, ready := (keys.take i1).filter (fun k => ak k == 0), out := [] }
/-- The loop over the rings. -/
def Rel4 (w : World) (g bf ba : Nat) (sp : Int) (sfin : OSt) (k : Nat) (wx : World) : Prop := ∃ (st : OSt) (vr vo : Value), Below w.heap.size w wx ∧ St w wx g bf ba vr vo st ∧ rings sp k st = some sfin
theorem wpList_lenM {w : World} {ops : Array Oper} {rest : List Oper} {o : Oper} {a : Act} {Q : Exit → Act → World → Prop} {b n : Nat} {m : IM} (hg : o.guard = none) (mO : Operand) (hop : o.op = Op.call { callee := Callee.builtin Builtin.len, args := #[mO], argTypes := #[35] }) (hm : a.eval mO = .map (some b)) (hown : IsMap' w b n m)
    (hK : wpList Try.prog ops Q rest (a.put o.dst (.int .i64 (m.length : Int))) w) : wpList Try.prog ops Q (o :: rest) a w := by
  refine wpList_len_own w hg mO 35 hop 3 3 Try.underlying35 _ b n (asD m) hm hown ?_
  rw [asD_size]
  exact hK
def OrdPost (w : World) (r1 : List S24) (r2 : Int) (e : Ending) (w' : World) : Prop := ∃ v0_ : Value, e = .returned (.tuple #[v0_, .int .i64 r2]) ∧ Kd.R k24 24 w' w.heap.size (fun _ => True) v0_ r1 ∧ Below w.heap.size w w'
set_option maxHeartbeats 4000000 in
theorem order_calls (A0 : Option Addr) (c0 : Nat) (l0 : List S24) (a1 : Int) (r1 : List S24) (r2 : Int) (w : World) (hr0 : Kd.C k24 w A0 l0.length l0) (hc0 : l0.length ≤ c0) (h : order_Order.f l0 a1 = some (r1, r2)) :
    Calls Try.prog 7 #[.slice A0 l0.length c0, .int .i64 a1] w (OrdPost w r1 r2) := by
  have HR := Aside0.mk hr0
  have hmax := hr0.2.1
  have H := Aside0.mk h
  have hmm := @run_makeMap Try.prog
  obtain ⟨n, hn⟩ : ∃ n, l0.length = n := ⟨_, rfl⟩
  rw [hn] at HR hmax ⊢
  have Hn := Aside0.mk hn
  have HS0 := Aside0.mk (st0 w)
  have HB0 := Aside0.mk (((Below.refl w.heap.size w).alloc (Nat.le_refl _) (.map #[] 0)).alloc (by simp) (.map #[] 0) |>.alloc (by simp; omega) (.cells #[.map (some w.heap.size), .map (some (w.heap.size + 1)), .slice none 0 0, .slice none 0 0] 38))
  clear hr0 hc0 h hn
  go_enter Try.func7, Try.ntmps7
  go_wp2
  generalize ((w.alloc (.map #[] 0)).alloc (.map #[] 0)).alloc (.cells #[.map (some w.heap.size), .map (some (w.heap.size + 1)), .slice none 0 0, .slice none 0 0] 38) = W at HS0 HB0 ⊢
  generalize w.heap.size + 1 + 1 = g at HS0 ⊢
  generalize w.heap.size + 1 = ba at HS0 ⊢
  obtain ⟨bf, hbf⟩ : ∃ bf, w.heap.size = bf := ⟨_, rfl⟩
  rw [hbf] at HS0 ⊢
  have Hbf := Aside0.mk hbf
  clear hbf
  have h := H.out
  unfold order_Order.f at h
  obtain ⟨o, hfill, h⟩ := Option.bind_eq_some_iff.1 h
  have Hf := Aside0.mk hfill
  have Hf0 := Aside0.mk hfill
  have H' := Aside0.mk h
  clear H h hfill
  clear h
  go_loopw [8, 9, 10, 21] (fun _ _ _ i wr => ∃ (j : Nat) (m : IM), i = .int .i64 j ∧ j ≤ n ∧ Aside0 (Below w.heap.size w wr) ∧ Aside0 (St w wr g bf ba (.slice none 0 0) (.slice none 0 0) { frm := m, asked := fun _ => 0, cnt := 0, ready := [], out := [] }) ∧ Aside0 (fill a1 (l0.drop j) m = some o)) (fun _ _ _ i _ => n - (intOf i).toNat)
  case atStart => exact ⟨0, [], rfl, Nat.zero_le _, HB0, HS0, Hf⟩
  case round =>
    clear HS0 HB0 Hf
    obtain ⟨j, m, rfl, hj, HB, HS, Hf⟩ := hrel
    by_cases hlt : j < n
    · obtain ⟨ad, rfl, hx0, hx1⟩ := at_T24 (Kd.C_below HR.out HB.out) (j : Int) (by omega) (by omega)
      have hlk : j < l0.length := by rw [Hn.out]; exact hlt
      have hdrop : l0.drop j = rd_T24 l0 (j : Int) :: l0.drop (j + 1) := by
        rw [List.drop_eq_getElem_cons hlk]
        simp [rd_T24, hlk]
      have hf := Hf.out
      rw [hdrop] at hf
      generalize rd_T24 l0 (j : Int) = x at hx0 hx1 hf
      obtain ⟨x0, x1⟩ := x
      simp only [fill] at hf
      split at hf
      case isFalse => cases hf
      rename_i hok
      obtain ⟨ok0, ok1, hml⟩ := hok
      have hc0 := HS.out.c0
      have hgl := HS.out.lt
      have hl : ∀ q, (Instr.lookup 35 (.map (some bf)) (.int .i64 x0) true).run Try.prog ((wr.alloc (.cells #[.int .i64 x0, .int .i64 x1] 24)).drewN q) = .ok (.tuple #[.int .i64 (get m x0), .bool (hasK m x0)]) ((wr.alloc (.cells #[.int .i64 x0, .int .i64 x1] 24)).drewN q) := fun q => (((HS.out.mf).kept (World.grownBy_alloc wr (.cells #[.int .i64 x0, .int .i64 x1] 24) none) (by simp)).kept (grown_of_below (pw_below_drewN (Below.refl _ _) q) none) (by simp)).look_ok ok0
      have Ho0 := Aside0.mk ok0
      have Ho1 := Aside0.mk ok1
      have Hml := Aside0.mk hml
      have Hff := Aside0.mk hf
      clear ok0 ok1 hml hf hdrop Hf hlk
      simp only [Int.toNat_natCast] at hx0 hx1
      by_cases c1 : hasK m x0 = true
      · have hff := Hff.out
        rw [if_pos (.inl c1)] at hff
        cases hff
        have h' := H'.out
        cases h'
        go_wp2
        go_quiet (fail)
        go_wp2
        go_ret2
        exact ⟨_, rfl, Kd.R_nil _ _ _ _ _, by repeat (first | (with_reducible exact HB.out) | apply below_alloc | apply pw_below_drewN | apply below_drew1)⟩
      · have c1b : hasK m x0 = false := by simpa using c1
        by_cases c2 : x0 = a1
        · have hff := Hff.out
          rw [if_pos (.inr (.inl c2))] at hff
          cases hff
          have h' := H'.out
          cases h'
          have c2b : (x0 == a1) = true := beq_iff_eq.2 c2
          clear c1 c2
          go_wp2
          go_quiet (fail)
          go_wp2
          go_ret2
          exact ⟨_, rfl, Kd.R_nil _ _ _ _ _, by repeat (first | (with_reducible exact HB.out) | apply below_alloc | apply pw_below_drewN | apply below_drew1)⟩
        · by_cases c3 : x1 = a1
          · have hff := Hff.out
            rw [if_pos (.inr (.inr c3))] at hff
            cases hff
            have h' := H'.out
            cases h'
            have c2b : (x0 == a1) = false := beq_eq_false_iff_ne.2 c2
            have c3b : (x1 == a1) = true := beq_iff_eq.2 c3
            clear c1 c2 c3
            go_wp2
            go_quiet (fail)
            go_wp2
            go_ret2
            exact ⟨_, rfl, Kd.R_nil _ _ _ _ _, by repeat (first | (with_reducible exact HB.out) | apply below_alloc | apply pw_below_drewN | apply below_drew1)⟩
          · have hff := Hff.out
            rw [if_neg (fun h => h.elim c1 (fun h => h.elim c2 c3))] at hff
            have Hff2 := Aside0.mk hff
            have c2b : (x0 == a1) = false := beq_eq_false_iff_ne.2 c2
            have c3b : (x1 == a1) = false := beq_eq_false_iff_ne.2 c3
            clear c1 c2 c3 hff Hff
            go_wp2
            go_quiet (fail)
            go_wp2
            have hs8 := (HS.out.alloc (.cells #[.int .i64 x0, .int .i64 x1] 24)).below (pw_below_drewN (Below.refl _ _) nq)
            have hb8 := pw_below_drewN (below_alloc HB.out (.cells #[.int .i64 x0, .int .i64 x1] 24)) nq
            have hp0 : ((wr.alloc (.cells #[.int .i64 x0, .int .i64 x1] 24)).drewN nq).cell? ⟨wr.heap.size, 0, none⟩ = some (.int .i64 x0) := blk_cell (blk_drewN (blk_new wr _) nq) 0
            have hp1 : ((wr.alloc (.cells #[.int .i64 x0, .int .i64 x1] 24)).drewN nq).cell? ⟨wr.heap.size, 1, none⟩ = some (.int .i64 x1) := blk_cell (blk_drewN (blk_new wr _) nq) 1
            clear hx0 hx1 hc0 hgl hl HS HB
            generalize (wr.alloc (.cells #[.int .i64 x0, .int .i64 x1] 24)).drewN nq = W8 at *
            generalize wr.heap.size = q8 at *
            have hc8 := hs8.c0
            have HS8 := Aside0.mk hs8
            have HB8 := Aside0.mk hb8
            clear hs8 hb8
            go_still_tail 8, (by kernel_rfl)
            change wpList _ _ _ _ _ W8.drew
            have HS9 := Aside0.mk (HS8.out.below ((Below.refl _ _).drew))
            have HB9 := Aside0.mk (below_drew1 HB8.out)
            clear HS8 HB8 hc8 hp0 hp1
            generalize W8.drew = W9 at *
            go_wp2_with (at_mapUpdate; refine wpList_putM rfl (.tmp 51) (.tmp 53) (.tmp 55) rfl rfl HS9.out.mf (Nat.lt_trans Hml.out (by decide)) rfl rfl Ho0.out Ho1.out ?_; intro w4 hm4 hg4; have HS4 := Aside0.mk (HS9.out.frm_ hg4 hm4); have HB4 := Aside0.mk (HB9.out.grown hg4 HB9.out.size (fun k hk => by cases hk; exact HS9.out.gf)); clear hm4 hg4)
            go_roundw
            case rel => exact ⟨j + 1, put x0 x1 m, by go_num, by omega, HB4, HS4, Hff2⟩
            case measure => simp [intOf]; omega
    · have hf := Hf.out
      rw [List.drop_of_length_le (by rw [Hn.out]; omega)] at hf
      simp only [fill, Option.some.injEq] at hf
      subst hf
      have hml := fill_length (m := []) (by decide) Hf0.out
      have hml' : m.length ≤ 1000000 := hml
      have Hup := Aside0.mk HS.out.mf.up
      have hc0 := HS.out.c0
      obtain ⟨sfin, hfin, hrr⟩ := Option.map_eq_some_iff.1 H'.out
      have Hfin := Aside0.mk hfin
      have Hrr := Aside0.mk hrr
      have Hml := Aside0.mk hml'
      clear hml hfin hrr Hf Hf0 H' HR hj hml'
      have hgl1 := (World.ownsMap.lt HS.out.mf)
      have hgl2 : ba < wr.heap.size := by obtain ⟨D, hD, _⟩ := HS.out.ma; exact hD.lt
      have hgl3 := HS.out.lt
      go_wp2_with (first | (go_at_call 11; refine (cloneC HS.out.mf).mono ?_; rintro e w1 ⟨rfl, hcl, hdull, hb1⟩; clear hdull; have HC1 := Aside0.mk hcl; have HS1 := Aside0.mk (HS.out.below hb1); have HB1 := Aside0.mk (below_then HB.out HB.out.size hb1); clear hcl hb1 hc0) | (at_range; refine wpList_range_own _ rfl _ 35 rfl 3 3 law3 Try.underlying35 _ wr.heap.size m.length (asD m) rfl HC1.out ?_; intro w2 hrg hg2 hs2; have HRG := Aside0.mk hrg; have HS2 := Aside0.mk (HS1.out.below (below_of_grown hg2)); have HB2 := Aside0.mk (below_then HB1.out HB1.out.size (below_of_grown hg2)); clear hrg hg2 hs2))
      go_frame
      have hr1 := HC1.out.lt
      generalize hbc : wr.heap.size = bc at *
      generalize hr : w1.heap.size = r at *
      have Hlt := Aside0.mk (show bf < bc ∧ ba < bc ∧ g < bc ∧ bc < r from ⟨hgl1, hgl2, hgl3, hr1⟩)
      clear hgl1 hgl2 hgl3 hr1 hbc hr hlt HS HB HS1 HB1 HC1
      go_loopw [11, 12] (fun _ _ wx => Rel2 w g bf ba bc r m wx) (fun _ _ wx => wx.rangeLeft bc r)
      case atStart =>
        refine ⟨_, _, 0, by rw [asD_size]; omega, HB2.out, HRG.out, ?_⟩
        rw [keepL_start, show askL m (has (asD m)) = fun _ => 0 from funext (askL_start m)]
        exact HS2.out
      case round =>
        clear HRG HS2 HB2
        obtain ⟨left, cnt, q, hq, hB, hRG, hS⟩ := hrel
        have HB := Aside0.mk hB
        have HRG := Aside0.mk hRG
        have HS := Aside0.mk hS
        clear hB hRG hS
        go_wp2_with (at_next; refine wpList_next_ranges_ii _ rfl _ rfl 3 3 .i64 .i64 law3 Try.underlying3 Try.underlying3 bc r m.length (asD m) left cnt rfl HRG.out ?_ ?_)
        · intro hcnt hl0
          have HS3 := HS
          rw [keepL_end hl0, askL_end hl0] at HS3
          have hc0 := HS3.out.c0
          have hfl : (m.filter fun p => !(p.1 == p.2)).length ≤ 1000000 := Nat.le_trans (List.length_filter_le _ _) Hml.out
          have Hfl := Aside0.mk hfl
          clear hl0 hcnt hfl HS HRG
          generalize hm1 : (m.filter fun p => !(p.1 == p.2)) = m1 at *
          generalize hak : askedBy m = ak at *
          clear hm1 hak
          go_wp2_with (first | (go_at_call 13; refine (keysC _ _).mono ?_; rintro e w2 ⟨rfl, rfl⟩) | (go_at_call 12; refine (sortedC (b := bf) (Bm := wr.heap.size) (HS3.out.alloc _).mf (by simp) (by simp) Hfl.out).mono ?_; rintro e w3 ⟨v3, rfl, hrow, hb3⟩; obtain ⟨A3, c3, rfl, hR3⟩ := own_reads hrow; have HA3 := Aside0.mk (fun ad (e : A3 = some ad) => own_base hrow ad.block (by subst e; rfl)); have HR := Aside0.mk hR3; have HB3 := Aside0.mk hb3; clear hrow hb3 hR3))
          have HS4 := Aside0.mk ((HS3.out.alloc (.cells #[.map (some bf)] 35)).below HB3.out)
          have HB4 := Aside0.mk (below_step (below_alloc HB.out (.cells #[.map (some bf)] 35)) HB3.out)
          have hkw := Aside0.mk (keys_ok HS3.out.mf)
          obtain ⟨keys, hkeys⟩ : ∃ keys, m1.map (·.1) = keys := ⟨_, rfl⟩
          have hkl : keys.length = m1.length := by rw [← hkeys]; simp
          simp only at hkw HR
          rw [hkeys] at HR hkw Hfin
          have hmax1 := HR.out.2.1
          obtain ⟨n1, hn1⟩ : ∃ n1, m1.length = n1 := ⟨_, rfl⟩
          rw [hn1] at hkl HR hmax1 Hfl
          simp only [hn1]
          have Hkl := Aside0.mk hkl
          have hqm : q ≤ m.length := by omega
          have Hq := Aside0.mk hqm
          have Hgl3 := Aside0.mk HS3.out.lt
          clear HS3 HB HB3 hkl hkeys hc0 hn1 hqm hq
          go_loopw [14, 90] (fun _ i wx => Rel3 w g bf ba m1 ak q A3 n1 keys i wx) (fun _ i _ => n1 - (intOf i).toNat)
          case atStart => exact ⟨0, _, rfl, Nat.zero_le _, HB4.out, HR.out, (fun ad _ => by simp [Value.ownBlock]), HS4.out⟩
          case round =>
            clear HB4 HS4 HR
            obtain ⟨i1, vr, rfl, hi1, hB, hR, hN, hS⟩ := hrel
            have HN := Aside0.mk hN
            have HB := Aside0.mk hB
            have HR := Aside0.mk hR
            have HS := Aside0.mk hS
            have hc1 := hS.c1
            have hc2 := hS.c2
            have hgl := hS.lt
            clear hB hR hS hN
            by_cases hlt1 : i1 < n1
            · have hlk : i1 < keys.length := by rw [Hkl.out]; exact hlt1
              obtain ⟨ad1, rfl, hcell⟩ := HR.out.at_ (i1 : Int) (by omega) (by omega)
              simp only [Int.toNat_natCast] at hcell
              have hkk := hkw.out _ (rd_mem keys i1 hlk)
              have hstep : (keys.take (i1 + 1)).filter (fun k => ak k == 0) = (keys.take i1).filter (fun k => ak k == 0) ++ (if ak (rd keys (i1 : Int)) = 0 then [rd keys (i1 : Int)] else []) := by
                rw [List.take_succ_eq_append_getElem hlk, List.filter_append]
                have : rd keys (i1 : Int) = keys[i1] := by simp [rd, hlk]
                rw [this]
                by_cases h0 : ak keys[i1] = 0 <;> simp [h0]
              have hlen : ((keys.take i1).filter (fun k => ak k == 0)).length ≤ 1000000 := by
                have h1 := List.length_filter_le (fun k => ak k == 0) (keys.take i1)
                have h2 : (keys.take i1).length ≤ i1 := List.length_take_le _ _
                have h3 : n1 ≤ 1000000 := Hfl.out
                omega
              generalize hrl : (keys.take i1).filter (fun k => ak k == 0) = rl at *
              generalize hkj : rd keys (i1 : Int) = kj at *
              have hl0 := HS.out.ma.look hkk
              simp only at hl0
              have Hst := Aside0.mk hstep
              have Hlen := Aside0.mk hlen
              clear hkk hstep hrl hkj hlk hlen
              by_cases hq : ak kj = 0
              · have hqb : (ak kj == 0) = true := beq_iff_eq.2 hq
                have hst := Hst.out
                rw [if_pos hq] at hst
                have Hst2 := Aside0.mk hst
                clear hq hst Hst
                go_wp2_with (at_builtin; refine Kd.R_append (Kd.int .i64) (w0 := w) w.heap.size rfl (.tmp 105) (.tmp 107) 36 3 (.int .i64 0) 8 rfl Try.underlying36 info3 rfl (by decide) (by omega) vr rl kj [.int .i64 kj] (fun _ => True) (fun _ => False) rfl rfl ?aP (fun _ hk => hk.elim) (fun _ _ => trivial) ?aO ?aB ?aS ?aL ?_; (case aP => exact rfl); (case aO => exact HS.out.rr); (case aB => exact HB.out); (case aS => exact HB.out.size); (case aL => have := Hlen.out; omega); intro v1 w5 ho hb hg hat; obtain ⟨A1, c1, e1⟩ := Kd.R_slice ho; rw [List.length_append, List.length_singleton] at e1; subst e1; have hc4 : w5.cell? ⟨g, 2, none⟩ = some vr := blk_cell (blk_grown HS.out.blk hg (Kd.R_ne HS.out.rr HS.out.blk (by decide))) 2; have hf4 : w5.frozen? ⟨g, 2, none⟩ = false := blk_frozen (blk_grown HS.out.blk hg (Kd.R_ne HS.out.rr HS.out.blk (by decide))) 2; have H1 := Aside0.mk ho; have H2 := Aside0.mk hb; have H3 := Aside0.mk hg; have H4 := Aside0.mk hat; clear ho hb hg hat hc1 hc2 hcell hl0)
                go_roundw
                case rel =>
                  have hS5 := HS.out.ready_ H3.out H1.out
                  have hgn := Hgl3.out
                  refine ⟨i1 + 1, _, by go_num, by omega, below_set H2.out HS.out.gg, ?_, ?_, by rw [Hst2.out]; exact hS5⟩
                  · refine ReadsInt.grown (ReadsInt.grown HR.out H3.out HN.out) (grownBy_setCell' _ g 2 _) (fun ad e => ?_)
                    have := HA3.out ad e
                    simp at this ⊢
                    omega
                  · intro ad e
                    rcases H4.out with h | ⟨b, h, hb⟩
                    · rw [h]; exact HN.out ad e
                    · rw [h]
                      obtain ⟨ad', e', hcl⟩ := HR.out.2.2 (by omega)
                      rw [e] at e'
                      cases e'
                      have := World.block_lt_of_cell? _ _ (hcl 0 (by omega))
                      rw [add_block] at this
                      intro e2
                      simp only [Option.some.injEq] at e2
                      omega
                case measure => simp [intOf]; omega
              · have hqb : (ak kj == 0) = false := beq_eq_false_iff_ne.2 hq
                have hst := Hst.out
                rw [if_neg hq, List.append_nil] at hst
                have Hst2 := Aside0.mk hst
                clear hq hst Hst
                go_wp2
                go_roundw
                case rel => exact ⟨i1 + 1, vr, by go_num, by omega, HB.out, HR.out, HN.out, by rw [Hst2.out]; exact HS.out⟩
                case measure => simp [intOf]; omega
            · have hin : i1 = n1 := by omega
              subst hin
              rw [List.take_of_length_le (by rw [Hkl.out]; exact Nat.le_refl _)] at HS
              have HS6 := Aside0.mk (show St w wr g bf ba vr (.slice none 0 0) { frm := m1, asked := ak, cnt := m.length, ready := keys.filter (fun k => ak k == 0), out := [] } from ⟨HS.out.blk, HS.out.gg, HS.out.gf, HS.out.ga, HS.out.ne, HS.out.mf, by obtain ⟨D, hD, hf⟩ := HS.out.ma; exact ⟨D, hD.mono Hq.out, hf⟩, HS.out.rr, HS.out.ro⟩)
              obtain ⟨s7, hd7, hr7⟩ := Option.bind_eq_some_iff.1 Hfin.out
              have Hd7 := Aside0.mk hd7
              have Hr7 := Aside0.mk hr7
              clear HS hd7 hr7 Hfin HR HN hc1 hc2
              go_wp2_with (go_at_call 14; refine (drain_calls 100000 HS6.out HB.out Hd7.out).mono ?_; rintro e w7 ⟨rfl, vr7, vo7, hs7, hb7⟩; have HS7 := Aside0.mk hs7; have HB7 := Aside0.mk hb7; clear hs7 hb7)
              obtain ⟨K, hK⟩ : ∃ K : Nat, 100000 = K := ⟨_, rfl⟩
              rw [hK] at Hr7
              clear hK HS6 HB
              go_loopg [114] K (fun kq _ wx => Rel4 w g bf ba a1 sfin kq wx)
              case atStart => exact ⟨s7, vr7, vo7, HB7.out, HS7.out, Hr7.out⟩
              case round =>
                clear HS7 HB7 Hr7
                obtain ⟨st, vr, vo, hB, hS, hR⟩ := hrel
                cases gk with
                | zero => exact absurd hR (by simp [rings])
                | succ k1 =>
                  simp only [rings] at hR
                  have HB := Aside0.mk hB
                  have HS := Aside0.mk hS
                  have hc0 := hS.c0
                  have hc3 := hS.c3
                  clear hB hS
                  cases hfr : st.frm with
                  | nil =>
                    rw [hfr] at hR
                    simp only [Option.some.injEq] at hR
                    subst hR
                    have h1 := Hrr.out
                    simp only [Prod.mk.injEq] at h1
                    obtain ⟨rfl, rfl⟩ := h1
                    have hlz : st.frm.length = 0 := by rw [hfr]; rfl
                    have Hz := Aside0.mk hlz
                    clear hlz hfr
                    go_wp2_with (at_len; refine wpList_lenM rfl (.tmp 117) rfl rfl HS.out.mf ?_; rw [Hz.out])
                    go_ret2
                    exact ⟨_, rfl, HS.out.ro, HB.out⟩
                  | cons p rest =>
                    rw [hfr] at hR
                    simp only at hR
                    obtain ⟨s9, h8, h9⟩ := Option.bind_eq_some_iff.1 hR
                    obtain ⟨s8, h8, h8'⟩ := Option.bind_eq_some_iff.1 h8
                    have hlz : st.frm.length = rest.length + 1 := by rw [hfr]; rfl
                    have hle : st.frm.length ≤ BIG := by
                      unfold ring at h8
                      split at h8
                      · rename_i hc; exact Nat.le_of_lt hc.2.2.2
                      · cases h8
                    have hup := HS.out.mf.up
                    rw [hfr] at hup
                    have Hup2 := Aside0.mk hup
                    have Hz := Aside0.mk hlz
                    have Hle := Aside0.mk hle
                    have H8 := Aside0.mk h8
                    have H8' := Aside0.mk h8'
                    have H9 := Aside0.mk h9
                    have Hfr := Aside0.mk hfr
                    clear hR hlz hle hup h8 h8' h9 hfr hc3
                    go_wp2_with (first | (at_len; refine wpList_lenM rfl (.tmp 117) rfl rfl HS.out.mf ?_; rw [Hz.out]) | (go_at_call 13; refine (keysC _ _).mono ?_; rintro e w2 ⟨rfl, rfl⟩) | (go_at_call 17; refine (collectC (b := bf) (Bm := wr.heap.size) (HS.out.alloc _).mf (by simp) (by simp) Hle.out).mono ?_; rintro e w3 ⟨v3, ss, rfl, hp3, hrow, hb3⟩; have HP3 := Aside0.mk hp3; have HROW := Aside0.mk hrow; have HB3 := Aside0.mk hb3; clear hp3 hrow hb3) | (go_at_call 16; refine (minC HROW.out (by rw [HP3.out.length_eq, List.length_map, Hz.out]; omega)).mono ?_; rintro e w4 ⟨rfl, rfl⟩; rw [minOf_head Hup2.out (by have := HP3.out; rwa [Hfr.out] at this)]) | (go_at_call 15; refine (ring_calls ((HS.out.alloc (.cells #[.map (some bf)] 35)).below HB3.out) (below_step (below_alloc HB.out (.cells #[.map (some bf)] 35)) HB3.out) _ _ H8.out).mono ?_; rintro e w5 ⟨rfl, vr5, vo5, hs5, hb5⟩; have HS5 := Aside0.mk hs5; have HB5 := Aside0.mk hb5; clear hs5 hb5) | (go_at_call 14; refine (drain_calls 100000 HS5.out HB5.out H8'.out).mono ?_; rintro e w6 ⟨rfl, vr6, vo6, hs6, hb6⟩; have HS6 := Aside0.mk hs6; have HB6 := Aside0.mk hb6; clear hs6 hb6))
                    go_roundg k1
                    case measure => omega
                    case rel => exact ⟨s9, vr6, vo6, HB6.out, HS6.out, H9.out⟩
        · intro x c w1 cnt1 hwx hwc hlx hat hrg1 hltc hg1 hs1 hen
          have hgx : get? m x = some c := by
            have := hat .nil
            rw [asD_at] at this
            cases hg : get? m x with
            | none => rw [hg] at this; cases this
            | some v => rw [hg] at this; simpa using this
          have hs2 := HS.out.kept hg1 (by have := Hlt.out; simp; omega) (by have := Hlt.out; simp; omega) (by have := Hlt.out; simp; omega) (by simp [Value.ownBlock]) (by simp [Value.ownBlock])
          have hb2 := HB.out.grown hg1 HB.out.size (fun k hk => by cases hk; have := Hlt.out; have := HS.out.ga; omega)
          have hc0 := hs2.c0
          have hc1 := hs2.c1
          have hl2 := hs2.ma.look hwc
          have HS2 := Aside0.mk hs2
          have HB2 := Aside0.mk hb2
          have HRG1 := Aside0.mk hrg1
          have Hgx := Aside0.mk hgx
          have Hwx := Aside0.mk hwx
          have Hwc := Aside0.mk hwc
          have Hlx := Aside0.mk hlx
          clear hs2 hb2 hrg1 hgx hwx hwc hlx hat hg1 hs1
          by_cases hxc : x = c
          · subst hxc
            have hxb : (x == x) = true := by simp
            go_wp2_with (at_delete; refine wpList_delM rfl (.tmp 74) (.tmp 75) rfl rfl HS2.out.mf rfl Hwx.out ?_; intro w4 hm4 hg4; rw [keepL_same Hup.out Hgx.out] at hm4; have HS4 := Aside0.mk (HS2.out.frm_ hg4 hm4); have HB4 := Aside0.mk (HB2.out.grown hg4 HB2.out.size (fun k hk => by cases hk; exact HS2.out.gf)); have HRG4 := Aside0.mk (HRG1.out.kept hg4 (by have := Hlt.out; simp; omega) (by have := Hlt.out; simp; omega)); clear hm4 hg4)
            go_roundw
            case rel => exact ⟨cut left x, cnt1, q, by omega, HB4.out, HRG4.out, by rw [askL_same Hup.out Hgx.out]; exact HS4.out⟩
            case measure => rw [HRG4.out.left_eq, HRG.out.left_eq]; exact hltc
          · have hxb : (x == c) = false := beq_eq_false_iff_ne.2 hxc
            have Hxc := Aside0.mk hxc
            have hle := askL_le m left c
            have hm1 := Hml.out
            have hwr : wrap64 (askL m left c + 1) = askL m left c + 1 := by unfold wrap64; omega
            have Hwr := Aside0.mk hwr
            have Hle := Aside0.mk hle
            clear hxc hwr hle hm1
            go_wp2_with (at_mapUpdate; refine wpList_putF rfl (.tmp 79) (.tmp 80) (.tmp 82) rfl rfl HS2.out.ma (by have := Hml.out; simp only; omega) rfl rfl Hwc.out (wrap_ok _) ?_; intro w4 hm4 hg4; simp only at hm4; rw [Hwr.out, ← askL_diff Hup.out Hgx.out Hxc.out Hlx.out] at hm4; have hs4 := HS2.out.asked_ hg4 hm4; simp only at hs4; rw [← keepL_diff (left := left) Hup.out Hgx.out Hxc.out] at hs4; have HS4 := Aside0.mk hs4; have HB4 := Aside0.mk (HB2.out.grown hg4 HB2.out.size (fun k hk => by cases hk; exact HS2.out.ga)); have HRG4 := Aside0.mk (HRG1.out.kept hg4 (by have := Hlt.out; simp; omega) (by have := Hlt.out; simp; omega)); clear hm4 hg4 hs4)
            go_roundw
            case rel => exact ⟨cut left x, cnt1, q + 1, by omega, HB4.out, HRG4.out, HS4.out⟩
            case measure => rw [HRG4.out.left_eq, HRG.out.left_eq]; exact hltc
theorem order_Order.calls (A0 : Option Addr) (c0 : Nat) (l0 : List S24) (a1 : Int) (r1 : List S24) (r2 : Int) (w : World) (hr0 : Kd.C k24 w A0 l0.length l0) (hc0 : l0.length ≤ c0) (h : order_Order.f l0 a1 = some (r1, r2)) :
    Calls Try.prog 7 #[.slice A0 l0.length c0, .int .i64 a1] w fun e w' => ∃ v0_ : Value, e = .returned (.tuple #[v0_, .int .i64 r2]) ∧ Kd.R k24 24 w' w.heap.size (fun _ => True) v0_ r1 ∧ Below w.heap.size w w' :=
  order_calls A0 c0 l0 a1 r1 r2 w hr0 hc0 h
#print axioms order_Order.calls
end Go.Proofs.Ytecpajjpeeaeaaa.POrd
