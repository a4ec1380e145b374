/- The law AdviseLeast answers true (written by mkleast28.py). Conditions: the arguments read as slices. -/
import Derived.Test.YtkjnhdnbgdaciaaAdvAw
import Derived.Test.YtkjnhdnbgdaciaaWide
import Derived.Test.YtkjnhdnbgdaciaaShift
import Derived.Test.YtkjnhdnbgdaciaaRatLs
namespace Go.Proofs.Ytkjnhdnbgdaciaa
set_option linter.unusedSimpArgs false
set_option linter.unusedVariables false
open Go.RowKit

/-- Three cells of a row. -/
def RowAt (W : World) (b o : Nat) (x y z : Value) : Prop := b < W.heap.size ∧ W.cell? ⟨b, o, none⟩ = some x ∧ W.cell? ⟨b, o + 1, none⟩ = some y ∧ W.cell? ⟨b, o + 2, none⟩ = some z
theorem RowAt.ext {W W' : World} {b o : Nat} {x y z : Value} (h : RowAt W b o x y z) (e : Ext W W') : RowAt W' b o x y z :=
  ⟨Nat.lt_of_lt_of_le h.1 e.size, (e.cell (p := ⟨b, o, none⟩) h.1).trans h.2.1, (e.cell (p := ⟨b, o + 1, none⟩) h.1).trans h.2.2.1, (e.cell (p := ⟨b, o + 2, none⟩) h.1).trans h.2.2.2⟩

set_option maxRecDepth 100000 in
set_option maxHeartbeats 8000000 in
theorem leastL_any (vc va : Value) (costs : List RR) (all : List Bool) (n : Int) (w : World) (hc : RdRs w vc costs) (ha : Rd w va (all.map Value.bool)) (hl : LimRs costs) (hn : -2147483648 ≤ n ∧ n ≤ 2147483647) :
    Calls Try.prog 5 #[vc, va, .int .i32 n] w fun e w' => e = .returned (.bool true) ∧ Ext w w' := by
  have HC := Lib.hid hc; have HA := Lib.hid ha; have HL := Lib.hid hl
  have hwd := fun W (x : Ext w W) => wide_any vc costs W (hc.ext x)
  obtain ⟨ac, cc, rfl, hcc, hcm, f, hr⟩ := hc.get
  obtain ⟨aa, ca, rfl, hac, ham, har⟩ := rdB_get ha
  have hla := fun W h1 h2 => least_any (.slice ac costs.length cc) (.slice aa all.length ca) costs all W h1 h2 HL.out
  obtain ⟨wb, hwb⟩ : ∃ x, x = wideB costs := ⟨_, rfl⟩
  rw [← hwb] at hwd
  have HWD := Lib.hid hwd; have HWB := Lib.hid hwb; have HR := Lib.hid hr; have HAR := Lib.hid har
  have X := Lib.hid (Ext.refl w)
  have n0 := hn.1; have n1 := hn.2
  clear hc ha hl hwd hwb hr har hn
  cases wb
  · obtain ⟨hl1, hl2⟩ := wideB_0 HWB.out.symm
    have H2 := Lib.hid hl2; clear hl2
    rcases leastS_law (costs := costs) (all := all) with ⟨hne, h0⟩ | ⟨hlen, hck, j, hj, hjl, hja, hall⟩
    · obtain ⟨s1, s2, hs⟩ : ∃ s1 s2, leastS costs all = (s1, s2) := ⟨_, _, rfl⟩
      rw [hs] at hne h0 hla
      dsimp only at hne h0 hla
      subst h0
      have q1 : (s2 == 0) = false := by simpa using hne
      have LA := Lib.hid hla
      clear hla hs hne
      go_enter Try.func5, Try.ntmps5
      go_wp2_with fail
      refine (HWD.out _ X.out).mono ?_
      rintro e w0 ⟨rfl, hw0⟩
      have hw1 := hw0.symm
      clear hw0
      subst hw1
      go_wp2_with fail
      refine (awake28_any _).mono ?_
      rintro e w1 ⟨rfl, hx⟩
      have HC := Lib.hid (HC.out.ext hx); have HA := Lib.hid (HA.out.ext hx); have X := Lib.hid (X.out.trans hx)
      clear hx
      go_wp2_with fail
      refine (LA.out _ HC.out HA.out).mono ?_
      rintro e w2 ⟨rfl, hx⟩
      have HC := Lib.hid (HC.out.ext hx); have HA := Lib.hid (HA.out.ext hx); have X := Lib.hid (X.out.trans hx)
      clear hx
      go_wp2_with fail
      go_ret
      exact ⟨rfl, X.out⟩
    · rw [hj] at hla
      dsimp only at hla
      have had := fun k (hk : k < costs.length) => add_int (HL.out k hk) (chkRs_0 hck k hk) (H2.out k hk).1 (H2.out k hk).2 (n := n) (by omega) (by omega)
      have hls := leastS_shift (all := all) (n : Rat) (fun k hk => (had k hk).2) hck
      rw [hj] at hls
      have hmo := fun W v1 h1 h2 => least_any v1 (.slice aa all.length ca) (moreR costs (n : Rat)) all W h1 h2 (more_lim _)
      rw [hls] at hmo
      dsimp only at hmo
      have hfr := fun W => fromR_any n W (by omega) (by omega)
      obtain ⟨ba, oa, rfl, hba, z0⟩ := HAR.out j (by omega)
      rw [hja] at z0
      obtain ⟨bb, off, rfl, hbb, x0, x1, x2, hrd⟩ := HR.out j hjl
      have hlj := HL.out j hjl
      obtain ⟨rj, hrj⟩ : ∃ r, r = costs.getD j zR := ⟨_, rfl⟩
      obtain ⟨fj, hfj⟩ : ∃ y, y = f j := ⟨_, rfl⟩
      rw [← hrj] at x0 x1 x2 hrd hlj hall
      rw [← hfj] at x1 x2 hrd
      have HRJ := Lib.hid hrd; have HLJ := Lib.hid hlj
      have HY := Lib.hid (And.intro hba (And.intro hbb (And.intro z0 (And.intro x0 (And.intro x1 x2)))))
      have LA := Lib.hid hla; have LM := Lib.hid hmo; have HAD := Lib.hid had; have HALL := Lib.hid hall; have HF := Lib.hid hfr
      have hwr : IntKind.i64.wrap n = n := by simp [IntKind.wrap, IntKind.signed, IntKind.bits]; omega
      have HW := Lib.hid hwr; clear hwr
      have t1 : ¬ (j : Int) < 0 := by omega
      have t2 : (j : Int) < (costs.length : Int) := by omega
      have t3 : ¬ (costs.length : Int) ≤ (j : Int) := by omega
      have t4 : (0 : Int) ≤ (j : Int) := by omega
      have t5 : (j : Int) < (all.length : Int) := by omega
      have t6 : ((all.length : Int) != (costs.length : Int)) = false := bne_eq_false_iff_eq.2 (by omega)
      have HLEN := Lib.hid hlen; have HCK := Lib.hid hck
      clear hla hj hls hmo had hfr hba hbb z0 x0 x1 x2 hrd hlj hrj hfj hall hja hlen hck hjl
      go_enter Try.func5, Try.ntmps5
      go_wp2_with fail
      refine (HWD.out _ X.out).mono ?_
      rintro e w0 ⟨rfl, hw0⟩
      have hw1 := hw0.symm
      clear hw0
      subst hw1
      go_wp2_with fail
      refine (awake28_any _).mono ?_
      rintro e w1 ⟨rfl, hx⟩
      have HC := Lib.hid (HC.out.ext hx); have HA := Lib.hid (HA.out.ext hx); have X := Lib.hid (X.out.trans hx)
      clear hx
      go_wp2_with fail
      refine (LA.out _ HC.out HA.out).mono ?_
      rintro e w2 ⟨rfl, hx⟩
      have HC := Lib.hid (HC.out.ext hx); have HA := Lib.hid (HA.out.ext hx); have X := Lib.hid (X.out.trans hx)
      clear hx
      obtain ⟨hba, hbb, z0, -, -, -⟩ := HY.out
      have y9 := (X.out.cell (p := ⟨ba, oa + j, none⟩) hba).trans z0
      clear hba hbb z0
      have u1 : decide ((j : Int) < 0) = false := decide_eq_false (by omega)
      have u2 : decide (costs.length ≤ j) = false := decide_eq_false (by omega)
      go_wp2_with fail
      clear y9 u1 u2
      go_loopw [9, 10] (fun v i wr => ∃ k : Nat, k ≤ costs.length ∧ i = .int .i64 k ∧ OwRs w2.heap.size wr v ((moreR costs (n : Rat)).take k) ∧ Ext w2 wr) (fun _ i _ => costs.length - (intOf i).toNat)
      case atStart => exact ⟨0, Nat.zero_le _, rfl, OwRow.nil _ _ _ _ _, Ext.refl w2⟩
      case round =>
        obtain ⟨k, hk, rfl, hown, hext⟩ := hrel
        have HO := Lib.hid hown
        have XR := Lib.hid hext
        clear hown hext
        by_cases hlt : k < costs.length
        · have hka : k < all.length := by have := HLEN.out; omega
          obtain ⟨hba, hbb, -, x0, x1, x2⟩ := HY.out
          obtain ⟨ba', oa', e, -, z1⟩ := HAR.out k hka
          simp only [Option.some.injEq, Addr.mk.injEq, and_true] at e
          obtain ⟨rfl, rfl⟩ := e
          obtain ⟨bb', off', e, -, u0, u1, u2, hrd⟩ := HR.out k hlt
          simp only [Option.some.injEq, Addr.mk.injEq, and_true] at e
          obtain ⟨rfl, rfl⟩ := e
          have hxw := X.out.trans XR.out
          have XW := Lib.hid hxw
          have hz := hxw.size
          have l1 : bb < wr.heap.size := by omega
          have l2 : ba < wr.heap.size := by omega
          have y0 := (hxw.cell (p := ⟨bb, off + j * 3, none⟩) hbb).trans x0
          have y1 := (hxw.cell (p := ⟨bb, off + j * 3 + 1, none⟩) hbb).trans x1
          have y2 := (hxw.cell (p := ⟨bb, off + j * 3 + 2, none⟩) hbb).trans x2
          have y3 := (hxw.cell (p := ⟨bb, off + k * 3, none⟩) hbb).trans u0
          have y4 := (hxw.cell (p := ⟨bb, off + k * 3 + 1, none⟩) hbb).trans u1
          have y5 := (hxw.cell (p := ⟨bb, off + k * 3 + 2, none⟩) hbb).trans u2
          have y9 := (hxw.cell (p := ⟨ba, oa + k, none⟩) hba).trans z1
          have hlk := HL.out k hlt
          have hall := HALL.out k hlt
          have had := (HAD.out k hlt).1
          have hts := take_snocD (moreR costs (n : Rat)) k zR (by rw [more_len]; exact hlt)
          rw [more_get hlt] at hts
          have hlk2 := List.length_take_of_le (l := moreR costs (n : Rat)) (i := k) (by rw [more_len]; omega)
          obtain ⟨rk, hrk⟩ : ∃ y, y = costs.getD k zR := ⟨_, rfl⟩
          obtain ⟨fk, hfk⟩ : ∃ y, y = f k := ⟨_, rfl⟩
          obtain ⟨ak, hak⟩ : ∃ y, y = all.getD k false := ⟨_, rfl⟩
          rw [← hrk] at y3 y4 y5 hrd hlk hall had hts
          rw [← hfk] at y4 y5 hrd
          rw [← hak] at y9 hall
          obtain ⟨R, hR⟩ : ∃ y, y = rep (qv rk + (n : Rat)) := ⟨_, rfl⟩
          rw [← hR] at had hts
          have hcm := fun W (x : Ext wr W) => cmpR_any _ _ rk rj W (hrd.ext (hxw.trans x)) (HRJ.out.ext (hxw.trans x)) hlk HLJ.out
          obtain ⟨cm, hcm0⟩ : ∃ c, c = cmpR rk rj := ⟨_, rfl⟩
          rw [← hcm0] at hcm hall
          obtain ⟨c1, c2⟩ := cm
          dsimp only at hcm hall
          have hadd := fun W v2 (x : Ext wr W) (h2 : RdR W v2 (rep (n : Rat))) => addR_any _ v2 rk (rep (n : Rat)) W (hrd.ext (hxw.trans x)) h2 hlk (limR_rep _)
          rw [had] at hadd
          obtain ⟨ca1, ca2⟩ := hall
          subst ca1
          have HCM := Lib.hid hcm; have HADD := Lib.hid hadd; have CA := Lib.hid ca2; have HT := Lib.hid hts; have HLK2 := Lib.hid hlk2; have HBB := Lib.hid l1
          have y6 := And.intro y3 (And.intro y4 y5)
          have HYK := Lib.hid y6
          have q1 : (0 : Int) ≤ (k : Int) := by omega
          have q2 : (k : Int) < (costs.length : Int) := by omega
          have q3 : (k : Int) < (all.length : Int) := by omega
          clear hcm hadd ca2 hts hlk2 hcm0 hrk hfk hak hR had hlk hrd x0 x1 x2 u0 u1 u2 z1 hba hbb hka hxw y6
          go_wp2_with fail
          (refine wp_region_quietE (by kernel_rfl) (by kernel_rfl) ?_; (repeat (go_big_quiet_step ((go_at_call 22; exact quietE (HCM.out _ (Later.ext _)))))); refine wpQuiet_nil ?_; rintro w1 ⟨⟨_, hx1⟩, rfl⟩; (try dsimp only); have hz1 := hx1.size; (try simp only [World.size_alloc, World.size_setCell, World.size_drew, size_drewN] at hz1); obtain ⟨hc1, hf1⟩ := hx1.old (B := w.heap.size) (by (try simp only [World.size_alloc, World.size_setCell, World.size_drew, size_drewN]); omega))
          have XQ := Lib.hid hx1
          have RC := Lib.hid (RowAt.ext (show RowAt wr bb (off + k * 3) _ _ _ from ⟨HBB.out, HYK.out.1, HYK.out.2.1, HYK.out.2.2⟩) hx1)
          have y8 := (hx1.cell (p := ⟨ba, oa + k, none⟩) l2).trans y9
          clear y0 y1 y2 y3 y4 y5 y9 hz hx1 l1 l2
          cases ak
          · clear CA
            go_wp2_with fail
            clear y8
            have RC1 := RC
            have X := Lib.hid (Ext.refl w1)
            have XB := XQ
            refine wp_region_held_drew (S := (fun W => bb < W.heap.size ∧ W.cell? ⟨bb, off + k * 3, none⟩ = some (.bool rk.neg) ∧ W.cell? ⟨bb, off + k * 3 + 1, none⟩ = some (.slice fk.1.1 rk.num.length fk.1.2) ∧ W.cell? ⟨bb, off + k * 3 + 2, none⟩ = some (.slice fk.2.1 rk.den.length fk.2.2))) (by kernel_rfl) ?_ (fun hHeld => ?_)
            · exact RC.out.ext (Ext.refl _).drew
            refine wpAnyH_take (i := 0) (v := ?_) rfl (by kernel_rfl) (by kernel_rfl) (by kernel_rfl) (fun _ _ _ h => h) (Or.inl ⟨by rfl, ?_⟩) (by assumption) ?_
            rotate_left
            · (intro w hSw; (try dsimp only at hSw); go_simp; first | done | with_reducible rfl)
            (try simp only [Act.put, List.getElem_toArray, List.getElem_cons_zero, List.getElem_cons_succ, List.setIfInBounds_toArray, List.set_cons_zero, List.set_cons_succ])
            refine wpAnyH_take (i := 1) (v := ?_) rfl (by kernel_rfl) (by kernel_rfl) (by kernel_rfl) (fun _ _ _ h => h) (Or.inl ⟨by rfl, ?_⟩) (by assumption) ?_
            rotate_left
            · (intro w hSw; (try dsimp only at hSw); go_simp; first | done | with_reducible rfl)
            (try simp only [Act.put, List.getElem_toArray, List.getElem_cons_zero, List.getElem_cons_succ, List.setIfInBounds_toArray, List.set_cons_zero, List.set_cons_succ])
            refine wpAnyH_take (i := 2) (v := ?_) rfl (by kernel_rfl) (by kernel_rfl) (by kernel_rfl) (fun _ _ _ h => h) (Or.inl ⟨by rfl, ?_⟩) (by assumption) ?_
            rotate_left
            · (intro w hSw; (try dsimp only at hSw); go_simp; first | done | with_reducible rfl)
            (try simp only [Act.put, List.getElem_toArray, List.getElem_cons_zero, List.getElem_cons_succ, List.setIfInBounds_toArray, List.set_cons_zero, List.set_cons_succ])
            refine wpAnyH_take (i := 3) (v := ?_) rfl (by kernel_rfl) (by kernel_rfl) (by kernel_rfl) (fun _ _ _ h => h) (Or.inl ⟨by rfl, ?_⟩) (by assumption) ?_
            rotate_left
            · (intro w hSw; (try dsimp only at hSw); go_simp; first | done | with_reducible rfl)
            (try simp only [Act.put, List.getElem_toArray, List.getElem_cons_zero, List.getElem_cons_succ, List.setIfInBounds_toArray, List.set_cons_zero, List.set_cons_succ])
            refine wpAnyH_take (i := 4) (v := ?_) rfl (by kernel_rfl) (by kernel_rfl) (by kernel_rfl) (fun _ _ _ h => h) (Or.inl ⟨by rfl, ?_⟩) (by assumption) ?_
            rotate_left
            · (intro w hSw; (try dsimp only at hSw); go_simp; first | done | with_reducible rfl)
            (try simp only [Act.put, List.getElem_toArray, List.getElem_cons_zero, List.getElem_cons_succ, List.setIfInBounds_toArray, List.set_cons_zero, List.set_cons_succ])
            refine wpAnyH_take (i := 5) (v := ?_) rfl (by kernel_rfl) (by kernel_rfl) (by kernel_rfl) (fun _ _ _ h => h) (Or.inl ⟨by rfl, ?_⟩) (by assumption) ?_
            rotate_left
            · (intro w hSw; (try dsimp only at hSw); go_simp; first | done | with_reducible rfl)
            (try simp only [Act.put, List.getElem_toArray, List.getElem_cons_zero, List.getElem_cons_succ, List.setIfInBounds_toArray, List.set_cons_zero, List.set_cons_succ])
            try rw [HW.out]
            refine wpAnyH_ready (rs := [6, 11]) (by kernel_rfl) (by simp) ?_
            refine AllReadyH.cons rfl (fun K hK => ?_) (AllReadyH.cons rfl (fun K hK => ?_) AllReadyH.nil)
            · go_simp
              refine (HF.out _).mono ?_
              rintro e w14 ⟨⟨v, rfl, nn⟩, hx⟩
              have hx := Ext.trans (show Ext w1 _ from by first | exact Ext.refl _ | exact (Ext.refl _).drew) hx
              have RC := Lib.hid (RC.out.ext hx); have X := Lib.hid (X.out.trans hx)
              obtain ⟨g1, g2, g3, g4, rfl⟩ := nn.shape
              have Ng := Lib.hid nn.rd
              clear nn hx
              first | refine hK.out _ _ ?_ (fun hHeld => ?_) | (go_wp2_with fail; refine hK.out _ _ ?_ (fun hHeld => ?_))
              · exact RC.out
              clear hK K
              (try simp only [Act.put, List.getElem_toArray, List.getElem_cons_zero, List.getElem_cons_succ, List.setIfInBounds_toArray, List.set_cons_zero, List.set_cons_succ])
              refine wpAnyH_ready (rs := [7, 11]) (by kernel_rfl) (by simp) ?_
              refine AllReadyH.cons rfl (fun K hK => ?_) (AllReadyH.cons rfl (fun K hK => ?_) AllReadyH.nil)
              · go_simp
                have xs := XQ.out.trans X.out
                refine (HADD.out _ _ (XQ.out.trans (X.out.trans (by first | exact Ext.refl _ | exact (Ext.refl _).drew))) (Ng.out.ext (by first | exact Ext.refl _ | exact (Ext.refl _).drew))).mono ?_
                rintro e w15 ⟨⟨v, rfl, nn⟩, hx⟩
                have hx := Ext.trans (show Ext w14 _ from by first | exact Ext.refl _ | exact (Ext.refl _).drew) hx
                have RC := Lib.hid (RC.out.ext hx); have Ng := Lib.hid (Ng.out.ext hx); have X := Lib.hid (X.out.trans hx)
                obtain ⟨s1, s2, s3, s4, rfl⟩ := nn.shape
                have Ns := Lib.hid nn.rd
                have Os := Lib.hid (nn.from (xs))
                clear nn hx
                first | refine hK.out _ _ ?_ (fun hHeld => ?_) | (go_wp2_with fail; refine hK.out _ _ ?_ (fun hHeld => ?_))
                · exact RC.out
                clear hK K
                (try simp only [Act.put, List.getElem_toArray, List.getElem_cons_zero, List.getElem_cons_succ, List.setIfInBounds_toArray, List.set_cons_zero, List.set_cons_succ])
                refine wpAnyH_take (i := 8) (v := ?_) rfl (by kernel_rfl) (by kernel_rfl) (by kernel_rfl) (fun _ _ _ h => h) (Or.inl ⟨by rfl, ?_⟩) (by assumption) ?_
                rotate_left
                · (intro w hSw; (try dsimp only at hSw); go_simp; first | done | with_reducible rfl)
                (try simp only [Act.put, List.getElem_toArray, List.getElem_cons_zero, List.getElem_cons_succ, List.setIfInBounds_toArray, List.set_cons_zero, List.set_cons_succ])
                refine wpAnyH_take (i := 9) (v := ?_) rfl (by kernel_rfl) (by kernel_rfl) (by kernel_rfl) (fun _ _ _ h => h) (Or.inl ⟨by rfl, ?_⟩) (by assumption) ?_
                rotate_left
                · (intro w hSw; (try dsimp only at hSw); go_simp; first | done | with_reducible rfl)
                (try simp only [Act.put, List.getElem_toArray, List.getElem_cons_zero, List.getElem_cons_succ, List.setIfInBounds_toArray, List.set_cons_zero, List.set_cons_succ])
                refine wpAnyH_take (i := 10) (v := ?_) rfl (by kernel_rfl) (by kernel_rfl) (by kernel_rfl) (fun _ _ _ h => h) (Or.inl ⟨by rfl, ?_⟩) (by assumption) ?_
                rotate_left
                · (intro w hSw; (try dsimp only at hSw); go_simp; first | done | with_reducible rfl)
                (try simp only [Act.put, List.getElem_toArray, List.getElem_cons_zero, List.getElem_cons_succ, List.setIfInBounds_toArray, List.set_cons_zero, List.set_cons_succ])
                refine wpAnyH_ready (rs := [11]) (by kernel_rfl) (by simp) ?_
                refine AllReadyH.cons rfl (fun K hK => ?_) ?_
                rotate_left
                · exact AllReadyH.nil
                go_simp
                have hx : Ext w15 ((w15.alloc (.cells #[.bool false, .slice none 0 0, .slice none 0 0] 63))) := (Ext.refl _).alloc _
                have bz : Blk ((w15.alloc (.cells #[.bool false, .slice none 0 0, .slice none 0 0] 63))) (w15.heap.size) #[.bool false, .slice none 0 0, .slice none 0 0] 63 := by have hh := (Blk.new w15 #[.bool false, .slice none 0 0, .slice none 0 0] 63); exact hh
                obtain ⟨w16, hww16⟩ : ∃ W, W = (w15.alloc (.cells #[.bool false, .slice none 0 0, .slice none 0 0] 63)) := ⟨_, rfl⟩
                rw [← hww16] at hx bz ⊢
                obtain ⟨Tn, hTn⟩ : ∃ n, n = w15.heap.size := ⟨_, rfl⟩
                have WT : Hid (w1.heap.size ≤ Tn) := Lib.hid (by have hh := X.out.size; omega)
                rw [← hTn] at bz ⊢
                have RC := Lib.hid (RC.out.ext hx); have Ng := Lib.hid (Ng.out.ext hx); have Ns := Lib.hid (Ns.out.ext hx); have Os := Lib.hid (Os.out.ext hx); have X := Lib.hid (X.out.trans hx)
                have T := Lib.hid bz
                clear hx bz hww16 hTn
                first | refine hK.out _ _ ?_ (fun hHeld => ?_) | (go_wp2_with fail; refine hK.out _ _ ?_ (fun hHeld => ?_))
                · exact RC.out
                clear hK K
                (try simp only [Act.put, List.getElem_toArray, List.getElem_cons_zero, List.getElem_cons_succ, List.setIfInBounds_toArray, List.set_cons_zero, List.set_cons_succ])
                have qT := T.out.cell; have fT := T.out.free; have lT := T.out.lt
                have wt := WT.out; have g9 : bb < Tn := by have := HBB.out; omega
                have xT : Ext wr (((w16.setCell ⟨Tn, 0, none⟩ (.bool R.neg)).setCell ⟨Tn, 1, none⟩ (.slice s1 R.num.length s2)).setCell ⟨Tn, 2, none⟩ (.slice s3 R.den.length s4)) := by have := XQ.out.trans X.out; (repeat (first | (with_reducible exact Ext.refl _) | (with_reducible assumption) | (with_reducible refine Ext.alloc ?_ _) | ((with_reducible refine Ext.setp ?_ ?_); focus (dsimp only; omega)) | (with_reducible refine Ext.drew ?_) | (with_reducible refine Ext.drewN ?_ _) | (with_reducible refine Ext.trans ?_ (by assumption))))
                have xT1 : Ext w1 (((w16.setCell ⟨Tn, 0, none⟩ (.bool R.neg)).setCell ⟨Tn, 1, none⟩ (.slice s1 R.num.length s2)).setCell ⟨Tn, 2, none⟩ (.slice s3 R.den.length s4)) := by have := X.out; (repeat (first | (with_reducible exact Ext.refl _) | (with_reducible assumption) | (with_reducible refine Ext.alloc ?_ _) | ((with_reducible refine Ext.setp ?_ ?_); focus (dsimp only; omega)) | (with_reducible refine Ext.drew ?_) | (with_reducible refine Ext.drewN ?_ _) | (with_reducible refine Ext.trans ?_ (by assumption))))
                have XT := Lib.hid xT; have XT1 := Lib.hid xT1; clear xT xT1
                refine wpAnyH_ready (rs := [12]) (by kernel_rfl) (by simp) ?_
                refine AllReadyH.cons rfl (fun K hK => ?_) ?_
                rotate_left
                · exact AllReadyH.nil
                go_simp
                first | refine hK.out _ _ ?_ (fun hHeld => ?_) | (go_wp2_with fail; refine hK.out _ _ ?_ (fun hHeld => ?_))
                · exact RowAt.ext RC1.out XT1.out
                clear hK K
                (try simp only [Act.put, List.getElem_toArray, List.getElem_cons_zero, List.getElem_cons_succ, List.setIfInBounds_toArray, List.set_cons_zero, List.set_cons_succ])
                refine wpAnyH_ready (rs := [13]) (by kernel_rfl) (by simp) ?_
                refine AllReadyH.cons rfl (fun K hK => ?_) ?_
                rotate_left
                · exact AllReadyH.nil
                go_simp
                first | refine hK.out _ _ ?_ (fun hHeld => ?_) | (go_wp2_with fail; refine hK.out _ _ ?_ (fun hHeld => ?_))
                · exact RowAt.ext RC1.out XT1.out
                clear hK K
                (try simp only [Act.put, List.getElem_toArray, List.getElem_cons_zero, List.getElem_cons_succ, List.setIfInBounds_toArray, List.set_cons_zero, List.set_cons_succ])
                refine wpAnyH_done (by kernel_rfl) ?_ _
                clear qT fT lT
                have nn := NewR.set3 Os.out T.out (by decide) (.bool R.neg) (.slice s1 R.num.length s2) (.slice s3 R.den.length s4)
                have bt := ((T.out.set 0 (.bool R.neg)).set 1 (.slice s1 R.num.length s2)).set 2 (.slice s3 R.den.length s4)
                simp only [List.setIfInBounds_toArray, List.set_cons_zero, List.set_cons_succ] at bt
                obtain ⟨w7, hw7⟩ : ∃ W, W = (((w16.setCell ⟨Tn, 0, none⟩ (.bool R.neg)).setCell ⟨Tn, 1, none⟩ (.slice s1 R.num.length s2)).setCell ⟨Tn, 2, none⟩ (.slice s3 R.den.length s4)) := ⟨_, rfl⟩
                rw [← hw7] at nn bt XT XT1 ⊢
                clear hw7
                have HO1 := Lib.hid (OwRs.ext' HO.out XT.out); have XR1 := Lib.hid (XR.out.trans XT.out); have HE := Lib.hid (ElR.new (B := w2.heap.size) nn)
                have hz1 := XR1.out.size
                have BT := Lib.hid bt
                have q8 := BT.out.cell; have q9 := BT.out.lt
                clear nn bt
                go_wp2_with (at_builtin; (refine wpList_append_row w7 rfl _ _ 55 rfl w2.heap.size 63 (.agg #[.bool false, .slice none 0 0, .slice none 0 0]) 3 56 Try.underlying55 Try.infoR rfl (by decide) (ElR.keeps (by decide)) _ _ HO1.out rfl [.bool R.neg, .slice s1 R.num.length s2, .slice s3 R.den.length s4] rfl (by simp [Value.oneCell']) R HE.out rfl (by have := HLK2.out; omega) (by have := HLK2.out; omega) hz1 ?_))
                intro g cap2 w99 hown2 hk2
                have HO2 := Lib.hid hown2; have XR2 := Lib.hid (Below.trans XR1.out (hk2.below hz1))
                clear hown2 hk2 q8 q9
                go_wp2
                go_roundw
                case rel =>
                  refine ⟨k + 1, by omega, by go_num, ?_, XR2.out⟩
                  rw [HT.out]
                  exact HO2.out
                case measure => simp [intOf]; omega
              · go_simp
                have hx : Ext w14 ((w14.alloc (.cells #[.bool false, .slice none 0 0, .slice none 0 0] 63))) := (Ext.refl _).alloc _
                have bz : Blk ((w14.alloc (.cells #[.bool false, .slice none 0 0, .slice none 0 0] 63))) (w14.heap.size) #[.bool false, .slice none 0 0, .slice none 0 0] 63 := by have hh := (Blk.new w14 #[.bool false, .slice none 0 0, .slice none 0 0] 63); exact hh
                obtain ⟨w15, hww15⟩ : ∃ W, W = (w14.alloc (.cells #[.bool false, .slice none 0 0, .slice none 0 0] 63)) := ⟨_, rfl⟩
                rw [← hww15] at hx bz ⊢
                obtain ⟨Tn, hTn⟩ : ∃ n, n = w14.heap.size := ⟨_, rfl⟩
                have WT : Hid (w1.heap.size ≤ Tn) := Lib.hid (by have hh := X.out.size; omega)
                rw [← hTn] at bz ⊢
                have RC := Lib.hid (RC.out.ext hx); have Ng := Lib.hid (Ng.out.ext hx); have X := Lib.hid (X.out.trans hx)
                have T := Lib.hid bz
                clear hx bz hww15 hTn
                first | refine hK.out _ _ ?_ (fun hHeld => ?_) | (go_wp2_with fail; refine hK.out _ _ ?_ (fun hHeld => ?_))
                · exact RC.out
                clear hK K
                (try simp only [Act.put, List.getElem_toArray, List.getElem_cons_zero, List.getElem_cons_succ, List.setIfInBounds_toArray, List.set_cons_zero, List.set_cons_succ])
                have xs := XQ.out.trans X.out
                refine wpAnyH_ready (rs := [7]) (by kernel_rfl) (by simp) ?_
                refine AllReadyH.cons rfl (fun K hK => ?_) ?_
                rotate_left
                · exact AllReadyH.nil
                go_simp
                refine (HADD.out _ _ (XQ.out.trans (X.out.trans (by first | exact Ext.refl _ | exact (Ext.refl _).drew))) (Ng.out.ext (by first | exact Ext.refl _ | exact (Ext.refl _).drew))).mono ?_
                rintro e w16 ⟨⟨v, rfl, nn⟩, hx⟩
                have hx := Ext.trans (show Ext w15 _ from by first | exact Ext.refl _ | exact (Ext.refl _).drew) hx
                have RC := Lib.hid (RC.out.ext hx); have Ng := Lib.hid (Ng.out.ext hx); have T := Lib.hid (T.out.ext hx); have X := Lib.hid (X.out.trans hx)
                obtain ⟨s1, s2, s3, s4, rfl⟩ := nn.shape
                have Ns := Lib.hid nn.rd
                have Os := Lib.hid (nn.from (xs))
                clear nn hx
                first | refine hK.out _ _ ?_ (fun hHeld => ?_) | (go_wp2_with fail; refine hK.out _ _ ?_ (fun hHeld => ?_))
                · exact RC.out
                clear hK K
                (try simp only [Act.put, List.getElem_toArray, List.getElem_cons_zero, List.getElem_cons_succ, List.setIfInBounds_toArray, List.set_cons_zero, List.set_cons_succ])
                refine wpAnyH_take (i := 8) (v := ?_) rfl (by kernel_rfl) (by kernel_rfl) (by kernel_rfl) (fun _ _ _ h => h) (Or.inl ⟨by rfl, ?_⟩) (by assumption) ?_
                rotate_left
                · (intro w hSw; (try dsimp only at hSw); go_simp; first | done | with_reducible rfl)
                (try simp only [Act.put, List.getElem_toArray, List.getElem_cons_zero, List.getElem_cons_succ, List.setIfInBounds_toArray, List.set_cons_zero, List.set_cons_succ])
                refine wpAnyH_take (i := 9) (v := ?_) rfl (by kernel_rfl) (by kernel_rfl) (by kernel_rfl) (fun _ _ _ h => h) (Or.inl ⟨by rfl, ?_⟩) (by assumption) ?_
                rotate_left
                · (intro w hSw; (try dsimp only at hSw); go_simp; first | done | with_reducible rfl)
                (try simp only [Act.put, List.getElem_toArray, List.getElem_cons_zero, List.getElem_cons_succ, List.setIfInBounds_toArray, List.set_cons_zero, List.set_cons_succ])
                refine wpAnyH_take (i := 10) (v := ?_) rfl (by kernel_rfl) (by kernel_rfl) (by kernel_rfl) (fun _ _ _ h => h) (Or.inl ⟨by rfl, ?_⟩) (by assumption) ?_
                rotate_left
                · (intro w hSw; (try dsimp only at hSw); go_simp; first | done | with_reducible rfl)
                (try simp only [Act.put, List.getElem_toArray, List.getElem_cons_zero, List.getElem_cons_succ, List.setIfInBounds_toArray, List.set_cons_zero, List.set_cons_succ])
                have qT := T.out.cell; have fT := T.out.free; have lT := T.out.lt
                have wt := WT.out; have g9 : bb < Tn := by have := HBB.out; omega
                have xT : Ext wr (((w16.setCell ⟨Tn, 0, none⟩ (.bool R.neg)).setCell ⟨Tn, 1, none⟩ (.slice s1 R.num.length s2)).setCell ⟨Tn, 2, none⟩ (.slice s3 R.den.length s4)) := by have := XQ.out.trans X.out; (repeat (first | (with_reducible exact Ext.refl _) | (with_reducible assumption) | (with_reducible refine Ext.alloc ?_ _) | ((with_reducible refine Ext.setp ?_ ?_); focus (dsimp only; omega)) | (with_reducible refine Ext.drew ?_) | (with_reducible refine Ext.drewN ?_ _) | (with_reducible refine Ext.trans ?_ (by assumption))))
                have xT1 : Ext w1 (((w16.setCell ⟨Tn, 0, none⟩ (.bool R.neg)).setCell ⟨Tn, 1, none⟩ (.slice s1 R.num.length s2)).setCell ⟨Tn, 2, none⟩ (.slice s3 R.den.length s4)) := by have := X.out; (repeat (first | (with_reducible exact Ext.refl _) | (with_reducible assumption) | (with_reducible refine Ext.alloc ?_ _) | ((with_reducible refine Ext.setp ?_ ?_); focus (dsimp only; omega)) | (with_reducible refine Ext.drew ?_) | (with_reducible refine Ext.drewN ?_ _) | (with_reducible refine Ext.trans ?_ (by assumption))))
                have XT := Lib.hid xT; have XT1 := Lib.hid xT1; clear xT xT1
                refine wpAnyH_ready (rs := [12]) (by kernel_rfl) (by simp) ?_
                refine AllReadyH.cons rfl (fun K hK => ?_) ?_
                rotate_left
                · exact AllReadyH.nil
                go_simp
                first | refine hK.out _ _ ?_ (fun hHeld => ?_) | (go_wp2_with fail; refine hK.out _ _ ?_ (fun hHeld => ?_))
                · exact RowAt.ext RC1.out XT1.out
                clear hK K
                (try simp only [Act.put, List.getElem_toArray, List.getElem_cons_zero, List.getElem_cons_succ, List.setIfInBounds_toArray, List.set_cons_zero, List.set_cons_succ])
                refine wpAnyH_ready (rs := [13]) (by kernel_rfl) (by simp) ?_
                refine AllReadyH.cons rfl (fun K hK => ?_) ?_
                rotate_left
                · exact AllReadyH.nil
                go_simp
                first | refine hK.out _ _ ?_ (fun hHeld => ?_) | (go_wp2_with fail; refine hK.out _ _ ?_ (fun hHeld => ?_))
                · exact RowAt.ext RC1.out XT1.out
                clear hK K
                (try simp only [Act.put, List.getElem_toArray, List.getElem_cons_zero, List.getElem_cons_succ, List.setIfInBounds_toArray, List.set_cons_zero, List.set_cons_succ])
                refine wpAnyH_done (by kernel_rfl) ?_ _
                clear qT fT lT
                have nn := NewR.set3 Os.out T.out (by decide) (.bool R.neg) (.slice s1 R.num.length s2) (.slice s3 R.den.length s4)
                have bt := ((T.out.set 0 (.bool R.neg)).set 1 (.slice s1 R.num.length s2)).set 2 (.slice s3 R.den.length s4)
                simp only [List.setIfInBounds_toArray, List.set_cons_zero, List.set_cons_succ] at bt
                obtain ⟨w7, hw7⟩ : ∃ W, W = (((w16.setCell ⟨Tn, 0, none⟩ (.bool R.neg)).setCell ⟨Tn, 1, none⟩ (.slice s1 R.num.length s2)).setCell ⟨Tn, 2, none⟩ (.slice s3 R.den.length s4)) := ⟨_, rfl⟩
                rw [← hw7] at nn bt XT XT1 ⊢
                clear hw7
                have HO1 := Lib.hid (OwRs.ext' HO.out XT.out); have XR1 := Lib.hid (XR.out.trans XT.out); have HE := Lib.hid (ElR.new (B := w2.heap.size) nn)
                have hz1 := XR1.out.size
                have BT := Lib.hid bt
                have q8 := BT.out.cell; have q9 := BT.out.lt
                clear nn bt
                go_wp2_with (at_builtin; (refine wpList_append_row w7 rfl _ _ 55 rfl w2.heap.size 63 (.agg #[.bool false, .slice none 0 0, .slice none 0 0]) 3 56 Try.underlying55 Try.infoR rfl (by decide) (ElR.keeps (by decide)) _ _ HO1.out rfl [.bool R.neg, .slice s1 R.num.length s2, .slice s3 R.den.length s4] rfl (by simp [Value.oneCell']) R HE.out rfl (by have := HLK2.out; omega) (by have := HLK2.out; omega) hz1 ?_))
                intro g cap2 w99 hown2 hk2
                have HO2 := Lib.hid hown2; have XR2 := Lib.hid (Below.trans XR1.out (hk2.below hz1))
                clear hown2 hk2 q8 q9
                go_wp2
                go_roundw
                case rel =>
                  refine ⟨k + 1, by omega, by go_num, ?_, XR2.out⟩
                  rw [HT.out]
                  exact HO2.out
                case measure => simp [intOf]; omega
            · go_simp
              have hx : Ext w1 ((w1.alloc (.cells #[.bool false, .slice none 0 0, .slice none 0 0] 63)).drew) := ((Ext.refl _).alloc _).drew
              have bz : Blk ((w1.alloc (.cells #[.bool false, .slice none 0 0, .slice none 0 0] 63)).drew) (w1.heap.size) #[.bool false, .slice none 0 0, .slice none 0 0] 63 := by have hh := (Blk.new w1 #[.bool false, .slice none 0 0, .slice none 0 0] 63).drew; exact hh
              obtain ⟨w14, hww14⟩ : ∃ W, W = (w1.alloc (.cells #[.bool false, .slice none 0 0, .slice none 0 0] 63)).drew := ⟨_, rfl⟩
              rw [← hww14] at hx bz ⊢
              obtain ⟨Tn, hTn⟩ : ∃ n, n = w1.heap.size := ⟨_, rfl⟩
              have WT : Hid (w1.heap.size ≤ Tn) := Lib.hid (by have hh := X.out.size; omega)
              rw [← hTn] at bz ⊢
              have RC := Lib.hid (RC.out.ext hx); have X := Lib.hid (X.out.trans hx)
              have T := Lib.hid bz
              clear hx bz hww14 hTn
              first | refine hK.out _ _ ?_ (fun hHeld => ?_) | (go_wp2_with fail; refine hK.out _ _ ?_ (fun hHeld => ?_))
              · exact RC.out
              clear hK K
              (try simp only [Act.put, List.getElem_toArray, List.getElem_cons_zero, List.getElem_cons_succ, List.setIfInBounds_toArray, List.set_cons_zero, List.set_cons_succ])
              refine wpAnyH_ready (rs := [6]) (by kernel_rfl) (by simp) ?_
              refine AllReadyH.cons rfl (fun K hK => ?_) ?_
              rotate_left
              · exact AllReadyH.nil
              go_simp
              refine (HF.out _).mono ?_
              rintro e w15 ⟨⟨v, rfl, nn⟩, hx⟩
              have hx := Ext.trans (show Ext w14 _ from by first | exact Ext.refl _ | exact (Ext.refl _).drew) hx
              have RC := Lib.hid (RC.out.ext hx); have T := Lib.hid (T.out.ext hx); have X := Lib.hid (X.out.trans hx)
              obtain ⟨g1, g2, g3, g4, rfl⟩ := nn.shape
              have Ng := Lib.hid nn.rd
              clear nn hx
              first | refine hK.out _ _ ?_ (fun hHeld => ?_) | (go_wp2_with fail; refine hK.out _ _ ?_ (fun hHeld => ?_))
              · exact RC.out
              clear hK K
              (try simp only [Act.put, List.getElem_toArray, List.getElem_cons_zero, List.getElem_cons_succ, List.setIfInBounds_toArray, List.set_cons_zero, List.set_cons_succ])
              have xs := XQ.out.trans X.out
              refine wpAnyH_ready (rs := [7]) (by kernel_rfl) (by simp) ?_
              refine AllReadyH.cons rfl (fun K hK => ?_) ?_
              rotate_left
              · exact AllReadyH.nil
              go_simp
              refine (HADD.out _ _ (XQ.out.trans (X.out.trans (by first | exact Ext.refl _ | exact (Ext.refl _).drew))) (Ng.out.ext (by first | exact Ext.refl _ | exact (Ext.refl _).drew))).mono ?_
              rintro e w16 ⟨⟨v, rfl, nn⟩, hx⟩
              have hx := Ext.trans (show Ext w15 _ from by first | exact Ext.refl _ | exact (Ext.refl _).drew) hx
              have RC := Lib.hid (RC.out.ext hx); have T := Lib.hid (T.out.ext hx); have Ng := Lib.hid (Ng.out.ext hx); have X := Lib.hid (X.out.trans hx)
              obtain ⟨s1, s2, s3, s4, rfl⟩ := nn.shape
              have Ns := Lib.hid nn.rd
              have Os := Lib.hid (nn.from (xs))
              clear nn hx
              first | refine hK.out _ _ ?_ (fun hHeld => ?_) | (go_wp2_with fail; refine hK.out _ _ ?_ (fun hHeld => ?_))
              · exact RC.out
              clear hK K
              (try simp only [Act.put, List.getElem_toArray, List.getElem_cons_zero, List.getElem_cons_succ, List.setIfInBounds_toArray, List.set_cons_zero, List.set_cons_succ])
              refine wpAnyH_take (i := 8) (v := ?_) rfl (by kernel_rfl) (by kernel_rfl) (by kernel_rfl) (fun _ _ _ h => h) (Or.inl ⟨by rfl, ?_⟩) (by assumption) ?_
              rotate_left
              · (intro w hSw; (try dsimp only at hSw); go_simp; first | done | with_reducible rfl)
              (try simp only [Act.put, List.getElem_toArray, List.getElem_cons_zero, List.getElem_cons_succ, List.setIfInBounds_toArray, List.set_cons_zero, List.set_cons_succ])
              refine wpAnyH_take (i := 9) (v := ?_) rfl (by kernel_rfl) (by kernel_rfl) (by kernel_rfl) (fun _ _ _ h => h) (Or.inl ⟨by rfl, ?_⟩) (by assumption) ?_
              rotate_left
              · (intro w hSw; (try dsimp only at hSw); go_simp; first | done | with_reducible rfl)
              (try simp only [Act.put, List.getElem_toArray, List.getElem_cons_zero, List.getElem_cons_succ, List.setIfInBounds_toArray, List.set_cons_zero, List.set_cons_succ])
              refine wpAnyH_take (i := 10) (v := ?_) rfl (by kernel_rfl) (by kernel_rfl) (by kernel_rfl) (fun _ _ _ h => h) (Or.inl ⟨by rfl, ?_⟩) (by assumption) ?_
              rotate_left
              · (intro w hSw; (try dsimp only at hSw); go_simp; first | done | with_reducible rfl)
              (try simp only [Act.put, List.getElem_toArray, List.getElem_cons_zero, List.getElem_cons_succ, List.setIfInBounds_toArray, List.set_cons_zero, List.set_cons_succ])
              have qT := T.out.cell; have fT := T.out.free; have lT := T.out.lt
              have wt := WT.out; have g9 : bb < Tn := by have := HBB.out; omega
              have xT : Ext wr (((w16.setCell ⟨Tn, 0, none⟩ (.bool R.neg)).setCell ⟨Tn, 1, none⟩ (.slice s1 R.num.length s2)).setCell ⟨Tn, 2, none⟩ (.slice s3 R.den.length s4)) := by have := XQ.out.trans X.out; (repeat (first | (with_reducible exact Ext.refl _) | (with_reducible assumption) | (with_reducible refine Ext.alloc ?_ _) | ((with_reducible refine Ext.setp ?_ ?_); focus (dsimp only; omega)) | (with_reducible refine Ext.drew ?_) | (with_reducible refine Ext.drewN ?_ _) | (with_reducible refine Ext.trans ?_ (by assumption))))
              have xT1 : Ext w1 (((w16.setCell ⟨Tn, 0, none⟩ (.bool R.neg)).setCell ⟨Tn, 1, none⟩ (.slice s1 R.num.length s2)).setCell ⟨Tn, 2, none⟩ (.slice s3 R.den.length s4)) := by have := X.out; (repeat (first | (with_reducible exact Ext.refl _) | (with_reducible assumption) | (with_reducible refine Ext.alloc ?_ _) | ((with_reducible refine Ext.setp ?_ ?_); focus (dsimp only; omega)) | (with_reducible refine Ext.drew ?_) | (with_reducible refine Ext.drewN ?_ _) | (with_reducible refine Ext.trans ?_ (by assumption))))
              have XT := Lib.hid xT; have XT1 := Lib.hid xT1; clear xT xT1
              refine wpAnyH_ready (rs := [12]) (by kernel_rfl) (by simp) ?_
              refine AllReadyH.cons rfl (fun K hK => ?_) ?_
              rotate_left
              · exact AllReadyH.nil
              go_simp
              first | refine hK.out _ _ ?_ (fun hHeld => ?_) | (go_wp2_with fail; refine hK.out _ _ ?_ (fun hHeld => ?_))
              · exact RowAt.ext RC1.out XT1.out
              clear hK K
              (try simp only [Act.put, List.getElem_toArray, List.getElem_cons_zero, List.getElem_cons_succ, List.setIfInBounds_toArray, List.set_cons_zero, List.set_cons_succ])
              refine wpAnyH_ready (rs := [13]) (by kernel_rfl) (by simp) ?_
              refine AllReadyH.cons rfl (fun K hK => ?_) ?_
              rotate_left
              · exact AllReadyH.nil
              go_simp
              first | refine hK.out _ _ ?_ (fun hHeld => ?_) | (go_wp2_with fail; refine hK.out _ _ ?_ (fun hHeld => ?_))
              · exact RowAt.ext RC1.out XT1.out
              clear hK K
              (try simp only [Act.put, List.getElem_toArray, List.getElem_cons_zero, List.getElem_cons_succ, List.setIfInBounds_toArray, List.set_cons_zero, List.set_cons_succ])
              refine wpAnyH_done (by kernel_rfl) ?_ _
              clear qT fT lT
              have nn := NewR.set3 Os.out T.out (by decide) (.bool R.neg) (.slice s1 R.num.length s2) (.slice s3 R.den.length s4)
              have bt := ((T.out.set 0 (.bool R.neg)).set 1 (.slice s1 R.num.length s2)).set 2 (.slice s3 R.den.length s4)
              simp only [List.setIfInBounds_toArray, List.set_cons_zero, List.set_cons_succ] at bt
              obtain ⟨w7, hw7⟩ : ∃ W, W = (((w16.setCell ⟨Tn, 0, none⟩ (.bool R.neg)).setCell ⟨Tn, 1, none⟩ (.slice s1 R.num.length s2)).setCell ⟨Tn, 2, none⟩ (.slice s3 R.den.length s4)) := ⟨_, rfl⟩
              rw [← hw7] at nn bt XT XT1 ⊢
              clear hw7
              have HO1 := Lib.hid (OwRs.ext' HO.out XT.out); have XR1 := Lib.hid (XR.out.trans XT.out); have HE := Lib.hid (ElR.new (B := w2.heap.size) nn)
              have hz1 := XR1.out.size
              have BT := Lib.hid bt
              have q8 := BT.out.cell; have q9 := BT.out.lt
              clear nn bt
              go_wp2_with (at_builtin; (refine wpList_append_row w7 rfl _ _ 55 rfl w2.heap.size 63 (.agg #[.bool false, .slice none 0 0, .slice none 0 0]) 3 56 Try.underlying55 Try.infoR rfl (by decide) (ElR.keeps (by decide)) _ _ HO1.out rfl [.bool R.neg, .slice s1 R.num.length s2, .slice s3 R.den.length s4] rfl (by simp [Value.oneCell']) R HE.out rfl (by have := HLK2.out; omega) (by have := HLK2.out; omega) hz1 ?_))
              intro g cap2 w99 hown2 hk2
              have HO2 := Lib.hid hown2; have XR2 := Lib.hid (Below.trans XR1.out (hk2.below hz1))
              clear hown2 hk2 q8 q9
              go_wp2
              go_roundw
              case rel =>
                refine ⟨k + 1, by omega, by go_num, ?_, XR2.out⟩
                rw [HT.out]
                exact HO2.out
              case measure => simp [intOf]; omega
          · obtain ⟨d1, d2⟩ := CA.out rfl
            have D2 := Lib.hid d2
            clear d2 CA
            by_cases h0 : c1 = 0
            · have d3 := D2.out h0
              subst h0
              have q5 : ¬ (k : Int) < (j : Int) := by omega
              have q6 : ¬ k < j := by omega
              go_wp2_with fail
              clear y8
              have RC1 := RC
              have X := Lib.hid (Ext.refl w1)
              have XB := XQ
              refine wp_region_held_drew (S := (fun W => bb < W.heap.size ∧ W.cell? ⟨bb, off + k * 3, none⟩ = some (.bool rk.neg) ∧ W.cell? ⟨bb, off + k * 3 + 1, none⟩ = some (.slice fk.1.1 rk.num.length fk.1.2) ∧ W.cell? ⟨bb, off + k * 3 + 2, none⟩ = some (.slice fk.2.1 rk.den.length fk.2.2))) (by kernel_rfl) ?_ (fun hHeld => ?_)
              · exact RC.out.ext (Ext.refl _).drew
              refine wpAnyH_take (i := 0) (v := ?_) rfl (by kernel_rfl) (by kernel_rfl) (by kernel_rfl) (fun _ _ _ h => h) (Or.inl ⟨by rfl, ?_⟩) (by assumption) ?_
              rotate_left
              · (intro w hSw; (try dsimp only at hSw); go_simp; first | done | with_reducible rfl)
              (try simp only [Act.put, List.getElem_toArray, List.getElem_cons_zero, List.getElem_cons_succ, List.setIfInBounds_toArray, List.set_cons_zero, List.set_cons_succ])
              refine wpAnyH_take (i := 1) (v := ?_) rfl (by kernel_rfl) (by kernel_rfl) (by kernel_rfl) (fun _ _ _ h => h) (Or.inl ⟨by rfl, ?_⟩) (by assumption) ?_
              rotate_left
              · (intro w hSw; (try dsimp only at hSw); go_simp; first | done | with_reducible rfl)
              (try simp only [Act.put, List.getElem_toArray, List.getElem_cons_zero, List.getElem_cons_succ, List.setIfInBounds_toArray, List.set_cons_zero, List.set_cons_succ])
              refine wpAnyH_take (i := 2) (v := ?_) rfl (by kernel_rfl) (by kernel_rfl) (by kernel_rfl) (fun _ _ _ h => h) (Or.inl ⟨by rfl, ?_⟩) (by assumption) ?_
              rotate_left
              · (intro w hSw; (try dsimp only at hSw); go_simp; first | done | with_reducible rfl)
              (try simp only [Act.put, List.getElem_toArray, List.getElem_cons_zero, List.getElem_cons_succ, List.setIfInBounds_toArray, List.set_cons_zero, List.set_cons_succ])
              refine wpAnyH_take (i := 3) (v := ?_) rfl (by kernel_rfl) (by kernel_rfl) (by kernel_rfl) (fun _ _ _ h => h) (Or.inl ⟨by rfl, ?_⟩) (by assumption) ?_
              rotate_left
              · (intro w hSw; (try dsimp only at hSw); go_simp; first | done | with_reducible rfl)
              (try simp only [Act.put, List.getElem_toArray, List.getElem_cons_zero, List.getElem_cons_succ, List.setIfInBounds_toArray, List.set_cons_zero, List.set_cons_succ])
              refine wpAnyH_take (i := 4) (v := ?_) rfl (by kernel_rfl) (by kernel_rfl) (by kernel_rfl) (fun _ _ _ h => h) (Or.inl ⟨by rfl, ?_⟩) (by assumption) ?_
              rotate_left
              · (intro w hSw; (try dsimp only at hSw); go_simp; first | done | with_reducible rfl)
              (try simp only [Act.put, List.getElem_toArray, List.getElem_cons_zero, List.getElem_cons_succ, List.setIfInBounds_toArray, List.set_cons_zero, List.set_cons_succ])
              refine wpAnyH_take (i := 5) (v := ?_) rfl (by kernel_rfl) (by kernel_rfl) (by kernel_rfl) (fun _ _ _ h => h) (Or.inl ⟨by rfl, ?_⟩) (by assumption) ?_
              rotate_left
              · (intro w hSw; (try dsimp only at hSw); go_simp; first | done | with_reducible rfl)
              (try simp only [Act.put, List.getElem_toArray, List.getElem_cons_zero, List.getElem_cons_succ, List.setIfInBounds_toArray, List.set_cons_zero, List.set_cons_succ])
              try rw [HW.out]
              refine wpAnyH_ready (rs := [6, 11]) (by kernel_rfl) (by simp) ?_
              refine AllReadyH.cons rfl (fun K hK => ?_) (AllReadyH.cons rfl (fun K hK => ?_) AllReadyH.nil)
              · go_simp
                refine (HF.out _).mono ?_
                rintro e w14 ⟨⟨v, rfl, nn⟩, hx⟩
                have hx := Ext.trans (show Ext w1 _ from by first | exact Ext.refl _ | exact (Ext.refl _).drew) hx
                have RC := Lib.hid (RC.out.ext hx); have X := Lib.hid (X.out.trans hx)
                obtain ⟨g1, g2, g3, g4, rfl⟩ := nn.shape
                have Ng := Lib.hid nn.rd
                clear nn hx
                first | refine hK.out _ _ ?_ (fun hHeld => ?_) | (go_wp2_with fail; refine hK.out _ _ ?_ (fun hHeld => ?_))
                · exact RC.out
                clear hK K
                (try simp only [Act.put, List.getElem_toArray, List.getElem_cons_zero, List.getElem_cons_succ, List.setIfInBounds_toArray, List.set_cons_zero, List.set_cons_succ])
                refine wpAnyH_ready (rs := [7, 11]) (by kernel_rfl) (by simp) ?_
                refine AllReadyH.cons rfl (fun K hK => ?_) (AllReadyH.cons rfl (fun K hK => ?_) AllReadyH.nil)
                · go_simp
                  have xs := XQ.out.trans X.out
                  refine (HADD.out _ _ (XQ.out.trans (X.out.trans (by first | exact Ext.refl _ | exact (Ext.refl _).drew))) (Ng.out.ext (by first | exact Ext.refl _ | exact (Ext.refl _).drew))).mono ?_
                  rintro e w15 ⟨⟨v, rfl, nn⟩, hx⟩
                  have hx := Ext.trans (show Ext w14 _ from by first | exact Ext.refl _ | exact (Ext.refl _).drew) hx
                  have RC := Lib.hid (RC.out.ext hx); have Ng := Lib.hid (Ng.out.ext hx); have X := Lib.hid (X.out.trans hx)
                  obtain ⟨s1, s2, s3, s4, rfl⟩ := nn.shape
                  have Ns := Lib.hid nn.rd
                  have Os := Lib.hid (nn.from (xs))
                  clear nn hx
                  first | refine hK.out _ _ ?_ (fun hHeld => ?_) | (go_wp2_with fail; refine hK.out _ _ ?_ (fun hHeld => ?_))
                  · exact RC.out
                  clear hK K
                  (try simp only [Act.put, List.getElem_toArray, List.getElem_cons_zero, List.getElem_cons_succ, List.setIfInBounds_toArray, List.set_cons_zero, List.set_cons_succ])
                  refine wpAnyH_take (i := 8) (v := ?_) rfl (by kernel_rfl) (by kernel_rfl) (by kernel_rfl) (fun _ _ _ h => h) (Or.inl ⟨by rfl, ?_⟩) (by assumption) ?_
                  rotate_left
                  · (intro w hSw; (try dsimp only at hSw); go_simp; first | done | with_reducible rfl)
                  (try simp only [Act.put, List.getElem_toArray, List.getElem_cons_zero, List.getElem_cons_succ, List.setIfInBounds_toArray, List.set_cons_zero, List.set_cons_succ])
                  refine wpAnyH_take (i := 9) (v := ?_) rfl (by kernel_rfl) (by kernel_rfl) (by kernel_rfl) (fun _ _ _ h => h) (Or.inl ⟨by rfl, ?_⟩) (by assumption) ?_
                  rotate_left
                  · (intro w hSw; (try dsimp only at hSw); go_simp; first | done | with_reducible rfl)
                  (try simp only [Act.put, List.getElem_toArray, List.getElem_cons_zero, List.getElem_cons_succ, List.setIfInBounds_toArray, List.set_cons_zero, List.set_cons_succ])
                  refine wpAnyH_take (i := 10) (v := ?_) rfl (by kernel_rfl) (by kernel_rfl) (by kernel_rfl) (fun _ _ _ h => h) (Or.inl ⟨by rfl, ?_⟩) (by assumption) ?_
                  rotate_left
                  · (intro w hSw; (try dsimp only at hSw); go_simp; first | done | with_reducible rfl)
                  (try simp only [Act.put, List.getElem_toArray, List.getElem_cons_zero, List.getElem_cons_succ, List.setIfInBounds_toArray, List.set_cons_zero, List.set_cons_succ])
                  refine wpAnyH_ready (rs := [11]) (by kernel_rfl) (by simp) ?_
                  refine AllReadyH.cons rfl (fun K hK => ?_) ?_
                  rotate_left
                  · exact AllReadyH.nil
                  go_simp
                  have hx : Ext w15 ((w15.alloc (.cells #[.bool false, .slice none 0 0, .slice none 0 0] 63))) := (Ext.refl _).alloc _
                  have bz : Blk ((w15.alloc (.cells #[.bool false, .slice none 0 0, .slice none 0 0] 63))) (w15.heap.size) #[.bool false, .slice none 0 0, .slice none 0 0] 63 := by have hh := (Blk.new w15 #[.bool false, .slice none 0 0, .slice none 0 0] 63); exact hh
                  obtain ⟨w16, hww16⟩ : ∃ W, W = (w15.alloc (.cells #[.bool false, .slice none 0 0, .slice none 0 0] 63)) := ⟨_, rfl⟩
                  rw [← hww16] at hx bz ⊢
                  obtain ⟨Tn, hTn⟩ : ∃ n, n = w15.heap.size := ⟨_, rfl⟩
                  have WT : Hid (w1.heap.size ≤ Tn) := Lib.hid (by have hh := X.out.size; omega)
                  rw [← hTn] at bz ⊢
                  have RC := Lib.hid (RC.out.ext hx); have Ng := Lib.hid (Ng.out.ext hx); have Ns := Lib.hid (Ns.out.ext hx); have Os := Lib.hid (Os.out.ext hx); have X := Lib.hid (X.out.trans hx)
                  have T := Lib.hid bz
                  clear hx bz hww16 hTn
                  first | refine hK.out _ _ ?_ (fun hHeld => ?_) | (go_wp2_with fail; refine hK.out _ _ ?_ (fun hHeld => ?_))
                  · exact RC.out
                  clear hK K
                  (try simp only [Act.put, List.getElem_toArray, List.getElem_cons_zero, List.getElem_cons_succ, List.setIfInBounds_toArray, List.set_cons_zero, List.set_cons_succ])
                  have qT := T.out.cell; have fT := T.out.free; have lT := T.out.lt
                  have wt := WT.out; have g9 : bb < Tn := by have := HBB.out; omega
                  have xT : Ext wr (((w16.setCell ⟨Tn, 0, none⟩ (.bool R.neg)).setCell ⟨Tn, 1, none⟩ (.slice s1 R.num.length s2)).setCell ⟨Tn, 2, none⟩ (.slice s3 R.den.length s4)) := by have := XQ.out.trans X.out; (repeat (first | (with_reducible exact Ext.refl _) | (with_reducible assumption) | (with_reducible refine Ext.alloc ?_ _) | ((with_reducible refine Ext.setp ?_ ?_); focus (dsimp only; omega)) | (with_reducible refine Ext.drew ?_) | (with_reducible refine Ext.drewN ?_ _) | (with_reducible refine Ext.trans ?_ (by assumption))))
                  have xT1 : Ext w1 (((w16.setCell ⟨Tn, 0, none⟩ (.bool R.neg)).setCell ⟨Tn, 1, none⟩ (.slice s1 R.num.length s2)).setCell ⟨Tn, 2, none⟩ (.slice s3 R.den.length s4)) := by have := X.out; (repeat (first | (with_reducible exact Ext.refl _) | (with_reducible assumption) | (with_reducible refine Ext.alloc ?_ _) | ((with_reducible refine Ext.setp ?_ ?_); focus (dsimp only; omega)) | (with_reducible refine Ext.drew ?_) | (with_reducible refine Ext.drewN ?_ _) | (with_reducible refine Ext.trans ?_ (by assumption))))
                  have XT := Lib.hid xT; have XT1 := Lib.hid xT1; clear xT xT1
                  refine wpAnyH_ready (rs := [12]) (by kernel_rfl) (by simp) ?_
                  refine AllReadyH.cons rfl (fun K hK => ?_) ?_
                  rotate_left
                  · exact AllReadyH.nil
                  go_simp
                  first | refine hK.out _ _ ?_ (fun hHeld => ?_) | (go_wp2_with fail; refine hK.out _ _ ?_ (fun hHeld => ?_))
                  · exact RowAt.ext RC1.out XT1.out
                  clear hK K
                  (try simp only [Act.put, List.getElem_toArray, List.getElem_cons_zero, List.getElem_cons_succ, List.setIfInBounds_toArray, List.set_cons_zero, List.set_cons_succ])
                  refine wpAnyH_ready (rs := [13]) (by kernel_rfl) (by simp) ?_
                  refine AllReadyH.cons rfl (fun K hK => ?_) ?_
                  rotate_left
                  · exact AllReadyH.nil
                  go_simp
                  first | refine hK.out _ _ ?_ (fun hHeld => ?_) | (go_wp2_with fail; refine hK.out _ _ ?_ (fun hHeld => ?_))
                  · exact RowAt.ext RC1.out XT1.out
                  clear hK K
                  (try simp only [Act.put, List.getElem_toArray, List.getElem_cons_zero, List.getElem_cons_succ, List.setIfInBounds_toArray, List.set_cons_zero, List.set_cons_succ])
                  refine wpAnyH_done (by kernel_rfl) ?_ _
                  clear qT fT lT
                  have nn := NewR.set3 Os.out T.out (by decide) (.bool R.neg) (.slice s1 R.num.length s2) (.slice s3 R.den.length s4)
                  have bt := ((T.out.set 0 (.bool R.neg)).set 1 (.slice s1 R.num.length s2)).set 2 (.slice s3 R.den.length s4)
                  simp only [List.setIfInBounds_toArray, List.set_cons_zero, List.set_cons_succ] at bt
                  obtain ⟨w7, hw7⟩ : ∃ W, W = (((w16.setCell ⟨Tn, 0, none⟩ (.bool R.neg)).setCell ⟨Tn, 1, none⟩ (.slice s1 R.num.length s2)).setCell ⟨Tn, 2, none⟩ (.slice s3 R.den.length s4)) := ⟨_, rfl⟩
                  rw [← hw7] at nn bt XT XT1 ⊢
                  clear hw7
                  have HO1 := Lib.hid (OwRs.ext' HO.out XT.out); have XR1 := Lib.hid (XR.out.trans XT.out); have HE := Lib.hid (ElR.new (B := w2.heap.size) nn)
                  have hz1 := XR1.out.size
                  have BT := Lib.hid bt
                  have q8 := BT.out.cell; have q9 := BT.out.lt
                  clear nn bt
                  go_wp2_with (at_builtin; (refine wpList_append_row w7 rfl _ _ 55 rfl w2.heap.size 63 (.agg #[.bool false, .slice none 0 0, .slice none 0 0]) 3 56 Try.underlying55 Try.infoR rfl (by decide) (ElR.keeps (by decide)) _ _ HO1.out rfl [.bool R.neg, .slice s1 R.num.length s2, .slice s3 R.den.length s4] rfl (by simp [Value.oneCell']) R HE.out rfl (by have := HLK2.out; omega) (by have := HLK2.out; omega) hz1 ?_))
                  intro g cap2 w99 hown2 hk2
                  have HO2 := Lib.hid hown2; have XR2 := Lib.hid (Below.trans XR1.out (hk2.below hz1))
                  clear hown2 hk2 q8 q9
                  go_wp2
                  go_roundw
                  case rel =>
                    refine ⟨k + 1, by omega, by go_num, ?_, XR2.out⟩
                    rw [HT.out]
                    exact HO2.out
                  case measure => simp [intOf]; omega
                · go_simp
                  have hx : Ext w14 ((w14.alloc (.cells #[.bool false, .slice none 0 0, .slice none 0 0] 63))) := (Ext.refl _).alloc _
                  have bz : Blk ((w14.alloc (.cells #[.bool false, .slice none 0 0, .slice none 0 0] 63))) (w14.heap.size) #[.bool false, .slice none 0 0, .slice none 0 0] 63 := by have hh := (Blk.new w14 #[.bool false, .slice none 0 0, .slice none 0 0] 63); exact hh
                  obtain ⟨w15, hww15⟩ : ∃ W, W = (w14.alloc (.cells #[.bool false, .slice none 0 0, .slice none 0 0] 63)) := ⟨_, rfl⟩
                  rw [← hww15] at hx bz ⊢
                  obtain ⟨Tn, hTn⟩ : ∃ n, n = w14.heap.size := ⟨_, rfl⟩
                  have WT : Hid (w1.heap.size ≤ Tn) := Lib.hid (by have hh := X.out.size; omega)
                  rw [← hTn] at bz ⊢
                  have RC := Lib.hid (RC.out.ext hx); have Ng := Lib.hid (Ng.out.ext hx); have X := Lib.hid (X.out.trans hx)
                  have T := Lib.hid bz
                  clear hx bz hww15 hTn
                  first | refine hK.out _ _ ?_ (fun hHeld => ?_) | (go_wp2_with fail; refine hK.out _ _ ?_ (fun hHeld => ?_))
                  · exact RC.out
                  clear hK K
                  (try simp only [Act.put, List.getElem_toArray, List.getElem_cons_zero, List.getElem_cons_succ, List.setIfInBounds_toArray, List.set_cons_zero, List.set_cons_succ])
                  have xs := XQ.out.trans X.out
                  refine wpAnyH_ready (rs := [7]) (by kernel_rfl) (by simp) ?_
                  refine AllReadyH.cons rfl (fun K hK => ?_) ?_
                  rotate_left
                  · exact AllReadyH.nil
                  go_simp
                  refine (HADD.out _ _ (XQ.out.trans (X.out.trans (by first | exact Ext.refl _ | exact (Ext.refl _).drew))) (Ng.out.ext (by first | exact Ext.refl _ | exact (Ext.refl _).drew))).mono ?_
                  rintro e w16 ⟨⟨v, rfl, nn⟩, hx⟩
                  have hx := Ext.trans (show Ext w15 _ from by first | exact Ext.refl _ | exact (Ext.refl _).drew) hx
                  have RC := Lib.hid (RC.out.ext hx); have Ng := Lib.hid (Ng.out.ext hx); have T := Lib.hid (T.out.ext hx); have X := Lib.hid (X.out.trans hx)
                  obtain ⟨s1, s2, s3, s4, rfl⟩ := nn.shape
                  have Ns := Lib.hid nn.rd
                  have Os := Lib.hid (nn.from (xs))
                  clear nn hx
                  first | refine hK.out _ _ ?_ (fun hHeld => ?_) | (go_wp2_with fail; refine hK.out _ _ ?_ (fun hHeld => ?_))
                  · exact RC.out
                  clear hK K
                  (try simp only [Act.put, List.getElem_toArray, List.getElem_cons_zero, List.getElem_cons_succ, List.setIfInBounds_toArray, List.set_cons_zero, List.set_cons_succ])
                  refine wpAnyH_take (i := 8) (v := ?_) rfl (by kernel_rfl) (by kernel_rfl) (by kernel_rfl) (fun _ _ _ h => h) (Or.inl ⟨by rfl, ?_⟩) (by assumption) ?_
                  rotate_left
                  · (intro w hSw; (try dsimp only at hSw); go_simp; first | done | with_reducible rfl)
                  (try simp only [Act.put, List.getElem_toArray, List.getElem_cons_zero, List.getElem_cons_succ, List.setIfInBounds_toArray, List.set_cons_zero, List.set_cons_succ])
                  refine wpAnyH_take (i := 9) (v := ?_) rfl (by kernel_rfl) (by kernel_rfl) (by kernel_rfl) (fun _ _ _ h => h) (Or.inl ⟨by rfl, ?_⟩) (by assumption) ?_
                  rotate_left
                  · (intro w hSw; (try dsimp only at hSw); go_simp; first | done | with_reducible rfl)
                  (try simp only [Act.put, List.getElem_toArray, List.getElem_cons_zero, List.getElem_cons_succ, List.setIfInBounds_toArray, List.set_cons_zero, List.set_cons_succ])
                  refine wpAnyH_take (i := 10) (v := ?_) rfl (by kernel_rfl) (by kernel_rfl) (by kernel_rfl) (fun _ _ _ h => h) (Or.inl ⟨by rfl, ?_⟩) (by assumption) ?_
                  rotate_left
                  · (intro w hSw; (try dsimp only at hSw); go_simp; first | done | with_reducible rfl)
                  (try simp only [Act.put, List.getElem_toArray, List.getElem_cons_zero, List.getElem_cons_succ, List.setIfInBounds_toArray, List.set_cons_zero, List.set_cons_succ])
                  have qT := T.out.cell; have fT := T.out.free; have lT := T.out.lt
                  have wt := WT.out; have g9 : bb < Tn := by have := HBB.out; omega
                  have xT : Ext wr (((w16.setCell ⟨Tn, 0, none⟩ (.bool R.neg)).setCell ⟨Tn, 1, none⟩ (.slice s1 R.num.length s2)).setCell ⟨Tn, 2, none⟩ (.slice s3 R.den.length s4)) := by have := XQ.out.trans X.out; (repeat (first | (with_reducible exact Ext.refl _) | (with_reducible assumption) | (with_reducible refine Ext.alloc ?_ _) | ((with_reducible refine Ext.setp ?_ ?_); focus (dsimp only; omega)) | (with_reducible refine Ext.drew ?_) | (with_reducible refine Ext.drewN ?_ _) | (with_reducible refine Ext.trans ?_ (by assumption))))
                  have xT1 : Ext w1 (((w16.setCell ⟨Tn, 0, none⟩ (.bool R.neg)).setCell ⟨Tn, 1, none⟩ (.slice s1 R.num.length s2)).setCell ⟨Tn, 2, none⟩ (.slice s3 R.den.length s4)) := by have := X.out; (repeat (first | (with_reducible exact Ext.refl _) | (with_reducible assumption) | (with_reducible refine Ext.alloc ?_ _) | ((with_reducible refine Ext.setp ?_ ?_); focus (dsimp only; omega)) | (with_reducible refine Ext.drew ?_) | (with_reducible refine Ext.drewN ?_ _) | (with_reducible refine Ext.trans ?_ (by assumption))))
                  have XT := Lib.hid xT; have XT1 := Lib.hid xT1; clear xT xT1
                  refine wpAnyH_ready (rs := [12]) (by kernel_rfl) (by simp) ?_
                  refine AllReadyH.cons rfl (fun K hK => ?_) ?_
                  rotate_left
                  · exact AllReadyH.nil
                  go_simp
                  first | refine hK.out _ _ ?_ (fun hHeld => ?_) | (go_wp2_with fail; refine hK.out _ _ ?_ (fun hHeld => ?_))
                  · exact RowAt.ext RC1.out XT1.out
                  clear hK K
                  (try simp only [Act.put, List.getElem_toArray, List.getElem_cons_zero, List.getElem_cons_succ, List.setIfInBounds_toArray, List.set_cons_zero, List.set_cons_succ])
                  refine wpAnyH_ready (rs := [13]) (by kernel_rfl) (by simp) ?_
                  refine AllReadyH.cons rfl (fun K hK => ?_) ?_
                  rotate_left
                  · exact AllReadyH.nil
                  go_simp
                  first | refine hK.out _ _ ?_ (fun hHeld => ?_) | (go_wp2_with fail; refine hK.out _ _ ?_ (fun hHeld => ?_))
                  · exact RowAt.ext RC1.out XT1.out
                  clear hK K
                  (try simp only [Act.put, List.getElem_toArray, List.getElem_cons_zero, List.getElem_cons_succ, List.setIfInBounds_toArray, List.set_cons_zero, List.set_cons_succ])
                  refine wpAnyH_done (by kernel_rfl) ?_ _
                  clear qT fT lT
                  have nn := NewR.set3 Os.out T.out (by decide) (.bool R.neg) (.slice s1 R.num.length s2) (.slice s3 R.den.length s4)
                  have bt := ((T.out.set 0 (.bool R.neg)).set 1 (.slice s1 R.num.length s2)).set 2 (.slice s3 R.den.length s4)
                  simp only [List.setIfInBounds_toArray, List.set_cons_zero, List.set_cons_succ] at bt
                  obtain ⟨w7, hw7⟩ : ∃ W, W = (((w16.setCell ⟨Tn, 0, none⟩ (.bool R.neg)).setCell ⟨Tn, 1, none⟩ (.slice s1 R.num.length s2)).setCell ⟨Tn, 2, none⟩ (.slice s3 R.den.length s4)) := ⟨_, rfl⟩
                  rw [← hw7] at nn bt XT XT1 ⊢
                  clear hw7
                  have HO1 := Lib.hid (OwRs.ext' HO.out XT.out); have XR1 := Lib.hid (XR.out.trans XT.out); have HE := Lib.hid (ElR.new (B := w2.heap.size) nn)
                  have hz1 := XR1.out.size
                  have BT := Lib.hid bt
                  have q8 := BT.out.cell; have q9 := BT.out.lt
                  clear nn bt
                  go_wp2_with (at_builtin; (refine wpList_append_row w7 rfl _ _ 55 rfl w2.heap.size 63 (.agg #[.bool false, .slice none 0 0, .slice none 0 0]) 3 56 Try.underlying55 Try.infoR rfl (by decide) (ElR.keeps (by decide)) _ _ HO1.out rfl [.bool R.neg, .slice s1 R.num.length s2, .slice s3 R.den.length s4] rfl (by simp [Value.oneCell']) R HE.out rfl (by have := HLK2.out; omega) (by have := HLK2.out; omega) hz1 ?_))
                  intro g cap2 w99 hown2 hk2
                  have HO2 := Lib.hid hown2; have XR2 := Lib.hid (Below.trans XR1.out (hk2.below hz1))
                  clear hown2 hk2 q8 q9
                  go_wp2
                  go_roundw
                  case rel =>
                    refine ⟨k + 1, by omega, by go_num, ?_, XR2.out⟩
                    rw [HT.out]
                    exact HO2.out
                  case measure => simp [intOf]; omega
              · go_simp
                have hx : Ext w1 ((w1.alloc (.cells #[.bool false, .slice none 0 0, .slice none 0 0] 63)).drew) := ((Ext.refl _).alloc _).drew
                have bz : Blk ((w1.alloc (.cells #[.bool false, .slice none 0 0, .slice none 0 0] 63)).drew) (w1.heap.size) #[.bool false, .slice none 0 0, .slice none 0 0] 63 := by have hh := (Blk.new w1 #[.bool false, .slice none 0 0, .slice none 0 0] 63).drew; exact hh
                obtain ⟨w14, hww14⟩ : ∃ W, W = (w1.alloc (.cells #[.bool false, .slice none 0 0, .slice none 0 0] 63)).drew := ⟨_, rfl⟩
                rw [← hww14] at hx bz ⊢
                obtain ⟨Tn, hTn⟩ : ∃ n, n = w1.heap.size := ⟨_, rfl⟩
                have WT : Hid (w1.heap.size ≤ Tn) := Lib.hid (by have hh := X.out.size; omega)
                rw [← hTn] at bz ⊢
                have RC := Lib.hid (RC.out.ext hx); have X := Lib.hid (X.out.trans hx)
                have T := Lib.hid bz
                clear hx bz hww14 hTn
                first | refine hK.out _ _ ?_ (fun hHeld => ?_) | (go_wp2_with fail; refine hK.out _ _ ?_ (fun hHeld => ?_))
                · exact RC.out
                clear hK K
                (try simp only [Act.put, List.getElem_toArray, List.getElem_cons_zero, List.getElem_cons_succ, List.setIfInBounds_toArray, List.set_cons_zero, List.set_cons_succ])
                refine wpAnyH_ready (rs := [6]) (by kernel_rfl) (by simp) ?_
                refine AllReadyH.cons rfl (fun K hK => ?_) ?_
                rotate_left
                · exact AllReadyH.nil
                go_simp
                refine (HF.out _).mono ?_
                rintro e w15 ⟨⟨v, rfl, nn⟩, hx⟩
                have hx := Ext.trans (show Ext w14 _ from by first | exact Ext.refl _ | exact (Ext.refl _).drew) hx
                have RC := Lib.hid (RC.out.ext hx); have T := Lib.hid (T.out.ext hx); have X := Lib.hid (X.out.trans hx)
                obtain ⟨g1, g2, g3, g4, rfl⟩ := nn.shape
                have Ng := Lib.hid nn.rd
                clear nn hx
                first | refine hK.out _ _ ?_ (fun hHeld => ?_) | (go_wp2_with fail; refine hK.out _ _ ?_ (fun hHeld => ?_))
                · exact RC.out
                clear hK K
                (try simp only [Act.put, List.getElem_toArray, List.getElem_cons_zero, List.getElem_cons_succ, List.setIfInBounds_toArray, List.set_cons_zero, List.set_cons_succ])
                have xs := XQ.out.trans X.out
                refine wpAnyH_ready (rs := [7]) (by kernel_rfl) (by simp) ?_
                refine AllReadyH.cons rfl (fun K hK => ?_) ?_
                rotate_left
                · exact AllReadyH.nil
                go_simp
                refine (HADD.out _ _ (XQ.out.trans (X.out.trans (by first | exact Ext.refl _ | exact (Ext.refl _).drew))) (Ng.out.ext (by first | exact Ext.refl _ | exact (Ext.refl _).drew))).mono ?_
                rintro e w16 ⟨⟨v, rfl, nn⟩, hx⟩
                have hx := Ext.trans (show Ext w15 _ from by first | exact Ext.refl _ | exact (Ext.refl _).drew) hx
                have RC := Lib.hid (RC.out.ext hx); have T := Lib.hid (T.out.ext hx); have Ng := Lib.hid (Ng.out.ext hx); have X := Lib.hid (X.out.trans hx)
                obtain ⟨s1, s2, s3, s4, rfl⟩ := nn.shape
                have Ns := Lib.hid nn.rd
                have Os := Lib.hid (nn.from (xs))
                clear nn hx
                first | refine hK.out _ _ ?_ (fun hHeld => ?_) | (go_wp2_with fail; refine hK.out _ _ ?_ (fun hHeld => ?_))
                · exact RC.out
                clear hK K
                (try simp only [Act.put, List.getElem_toArray, List.getElem_cons_zero, List.getElem_cons_succ, List.setIfInBounds_toArray, List.set_cons_zero, List.set_cons_succ])
                refine wpAnyH_take (i := 8) (v := ?_) rfl (by kernel_rfl) (by kernel_rfl) (by kernel_rfl) (fun _ _ _ h => h) (Or.inl ⟨by rfl, ?_⟩) (by assumption) ?_
                rotate_left
                · (intro w hSw; (try dsimp only at hSw); go_simp; first | done | with_reducible rfl)
                (try simp only [Act.put, List.getElem_toArray, List.getElem_cons_zero, List.getElem_cons_succ, List.setIfInBounds_toArray, List.set_cons_zero, List.set_cons_succ])
                refine wpAnyH_take (i := 9) (v := ?_) rfl (by kernel_rfl) (by kernel_rfl) (by kernel_rfl) (fun _ _ _ h => h) (Or.inl ⟨by rfl, ?_⟩) (by assumption) ?_
                rotate_left
                · (intro w hSw; (try dsimp only at hSw); go_simp; first | done | with_reducible rfl)
                (try simp only [Act.put, List.getElem_toArray, List.getElem_cons_zero, List.getElem_cons_succ, List.setIfInBounds_toArray, List.set_cons_zero, List.set_cons_succ])
                refine wpAnyH_take (i := 10) (v := ?_) rfl (by kernel_rfl) (by kernel_rfl) (by kernel_rfl) (fun _ _ _ h => h) (Or.inl ⟨by rfl, ?_⟩) (by assumption) ?_
                rotate_left
                · (intro w hSw; (try dsimp only at hSw); go_simp; first | done | with_reducible rfl)
                (try simp only [Act.put, List.getElem_toArray, List.getElem_cons_zero, List.getElem_cons_succ, List.setIfInBounds_toArray, List.set_cons_zero, List.set_cons_succ])
                have qT := T.out.cell; have fT := T.out.free; have lT := T.out.lt
                have wt := WT.out; have g9 : bb < Tn := by have := HBB.out; omega
                have xT : Ext wr (((w16.setCell ⟨Tn, 0, none⟩ (.bool R.neg)).setCell ⟨Tn, 1, none⟩ (.slice s1 R.num.length s2)).setCell ⟨Tn, 2, none⟩ (.slice s3 R.den.length s4)) := by have := XQ.out.trans X.out; (repeat (first | (with_reducible exact Ext.refl _) | (with_reducible assumption) | (with_reducible refine Ext.alloc ?_ _) | ((with_reducible refine Ext.setp ?_ ?_); focus (dsimp only; omega)) | (with_reducible refine Ext.drew ?_) | (with_reducible refine Ext.drewN ?_ _) | (with_reducible refine Ext.trans ?_ (by assumption))))
                have xT1 : Ext w1 (((w16.setCell ⟨Tn, 0, none⟩ (.bool R.neg)).setCell ⟨Tn, 1, none⟩ (.slice s1 R.num.length s2)).setCell ⟨Tn, 2, none⟩ (.slice s3 R.den.length s4)) := by have := X.out; (repeat (first | (with_reducible exact Ext.refl _) | (with_reducible assumption) | (with_reducible refine Ext.alloc ?_ _) | ((with_reducible refine Ext.setp ?_ ?_); focus (dsimp only; omega)) | (with_reducible refine Ext.drew ?_) | (with_reducible refine Ext.drewN ?_ _) | (with_reducible refine Ext.trans ?_ (by assumption))))
                have XT := Lib.hid xT; have XT1 := Lib.hid xT1; clear xT xT1
                refine wpAnyH_ready (rs := [12]) (by kernel_rfl) (by simp) ?_
                refine AllReadyH.cons rfl (fun K hK => ?_) ?_
                rotate_left
                · exact AllReadyH.nil
                go_simp
                first | refine hK.out _ _ ?_ (fun hHeld => ?_) | (go_wp2_with fail; refine hK.out _ _ ?_ (fun hHeld => ?_))
                · exact RowAt.ext RC1.out XT1.out
                clear hK K
                (try simp only [Act.put, List.getElem_toArray, List.getElem_cons_zero, List.getElem_cons_succ, List.setIfInBounds_toArray, List.set_cons_zero, List.set_cons_succ])
                refine wpAnyH_ready (rs := [13]) (by kernel_rfl) (by simp) ?_
                refine AllReadyH.cons rfl (fun K hK => ?_) ?_
                rotate_left
                · exact AllReadyH.nil
                go_simp
                first | refine hK.out _ _ ?_ (fun hHeld => ?_) | (go_wp2_with fail; refine hK.out _ _ ?_ (fun hHeld => ?_))
                · exact RowAt.ext RC1.out XT1.out
                clear hK K
                (try simp only [Act.put, List.getElem_toArray, List.getElem_cons_zero, List.getElem_cons_succ, List.setIfInBounds_toArray, List.set_cons_zero, List.set_cons_succ])
                refine wpAnyH_done (by kernel_rfl) ?_ _
                clear qT fT lT
                have nn := NewR.set3 Os.out T.out (by decide) (.bool R.neg) (.slice s1 R.num.length s2) (.slice s3 R.den.length s4)
                have bt := ((T.out.set 0 (.bool R.neg)).set 1 (.slice s1 R.num.length s2)).set 2 (.slice s3 R.den.length s4)
                simp only [List.setIfInBounds_toArray, List.set_cons_zero, List.set_cons_succ] at bt
                obtain ⟨w7, hw7⟩ : ∃ W, W = (((w16.setCell ⟨Tn, 0, none⟩ (.bool R.neg)).setCell ⟨Tn, 1, none⟩ (.slice s1 R.num.length s2)).setCell ⟨Tn, 2, none⟩ (.slice s3 R.den.length s4)) := ⟨_, rfl⟩
                rw [← hw7] at nn bt XT XT1 ⊢
                clear hw7
                have HO1 := Lib.hid (OwRs.ext' HO.out XT.out); have XR1 := Lib.hid (XR.out.trans XT.out); have HE := Lib.hid (ElR.new (B := w2.heap.size) nn)
                have hz1 := XR1.out.size
                have BT := Lib.hid bt
                have q8 := BT.out.cell; have q9 := BT.out.lt
                clear nn bt
                go_wp2_with (at_builtin; (refine wpList_append_row w7 rfl _ _ 55 rfl w2.heap.size 63 (.agg #[.bool false, .slice none 0 0, .slice none 0 0]) 3 56 Try.underlying55 Try.infoR rfl (by decide) (ElR.keeps (by decide)) _ _ HO1.out rfl [.bool R.neg, .slice s1 R.num.length s2, .slice s3 R.den.length s4] rfl (by simp [Value.oneCell']) R HE.out rfl (by have := HLK2.out; omega) (by have := HLK2.out; omega) hz1 ?_))
                intro g cap2 w99 hown2 hk2
                have HO2 := Lib.hid hown2; have XR2 := Lib.hid (Below.trans XR1.out (hk2.below hz1))
                clear hown2 hk2 q8 q9
                go_wp2
                go_roundw
                case rel =>
                  refine ⟨k + 1, by omega, by go_num, ?_, XR2.out⟩
                  rw [HT.out]
                  exact HO2.out
                case measure => simp [intOf]; omega
            · have q5 : (c1 == 0) = false := by simpa using h0
              go_wp2_with fail
              clear y8
              have RC1 := RC
              have X := Lib.hid (Ext.refl w1)
              have XB := XQ
              refine wp_region_held_drew (S := (fun W => bb < W.heap.size ∧ W.cell? ⟨bb, off + k * 3, none⟩ = some (.bool rk.neg) ∧ W.cell? ⟨bb, off + k * 3 + 1, none⟩ = some (.slice fk.1.1 rk.num.length fk.1.2) ∧ W.cell? ⟨bb, off + k * 3 + 2, none⟩ = some (.slice fk.2.1 rk.den.length fk.2.2))) (by kernel_rfl) ?_ (fun hHeld => ?_)
              · exact RC.out.ext (Ext.refl _).drew
              refine wpAnyH_take (i := 0) (v := ?_) rfl (by kernel_rfl) (by kernel_rfl) (by kernel_rfl) (fun _ _ _ h => h) (Or.inl ⟨by rfl, ?_⟩) (by assumption) ?_
              rotate_left
              · (intro w hSw; (try dsimp only at hSw); go_simp; first | done | with_reducible rfl)
              (try simp only [Act.put, List.getElem_toArray, List.getElem_cons_zero, List.getElem_cons_succ, List.setIfInBounds_toArray, List.set_cons_zero, List.set_cons_succ])
              refine wpAnyH_take (i := 1) (v := ?_) rfl (by kernel_rfl) (by kernel_rfl) (by kernel_rfl) (fun _ _ _ h => h) (Or.inl ⟨by rfl, ?_⟩) (by assumption) ?_
              rotate_left
              · (intro w hSw; (try dsimp only at hSw); go_simp; first | done | with_reducible rfl)
              (try simp only [Act.put, List.getElem_toArray, List.getElem_cons_zero, List.getElem_cons_succ, List.setIfInBounds_toArray, List.set_cons_zero, List.set_cons_succ])
              refine wpAnyH_take (i := 2) (v := ?_) rfl (by kernel_rfl) (by kernel_rfl) (by kernel_rfl) (fun _ _ _ h => h) (Or.inl ⟨by rfl, ?_⟩) (by assumption) ?_
              rotate_left
              · (intro w hSw; (try dsimp only at hSw); go_simp; first | done | with_reducible rfl)
              (try simp only [Act.put, List.getElem_toArray, List.getElem_cons_zero, List.getElem_cons_succ, List.setIfInBounds_toArray, List.set_cons_zero, List.set_cons_succ])
              refine wpAnyH_take (i := 3) (v := ?_) rfl (by kernel_rfl) (by kernel_rfl) (by kernel_rfl) (fun _ _ _ h => h) (Or.inl ⟨by rfl, ?_⟩) (by assumption) ?_
              rotate_left
              · (intro w hSw; (try dsimp only at hSw); go_simp; first | done | with_reducible rfl)
              (try simp only [Act.put, List.getElem_toArray, List.getElem_cons_zero, List.getElem_cons_succ, List.setIfInBounds_toArray, List.set_cons_zero, List.set_cons_succ])
              refine wpAnyH_take (i := 4) (v := ?_) rfl (by kernel_rfl) (by kernel_rfl) (by kernel_rfl) (fun _ _ _ h => h) (Or.inl ⟨by rfl, ?_⟩) (by assumption) ?_
              rotate_left
              · (intro w hSw; (try dsimp only at hSw); go_simp; first | done | with_reducible rfl)
              (try simp only [Act.put, List.getElem_toArray, List.getElem_cons_zero, List.getElem_cons_succ, List.setIfInBounds_toArray, List.set_cons_zero, List.set_cons_succ])
              refine wpAnyH_take (i := 5) (v := ?_) rfl (by kernel_rfl) (by kernel_rfl) (by kernel_rfl) (fun _ _ _ h => h) (Or.inl ⟨by rfl, ?_⟩) (by assumption) ?_
              rotate_left
              · (intro w hSw; (try dsimp only at hSw); go_simp; first | done | with_reducible rfl)
              (try simp only [Act.put, List.getElem_toArray, List.getElem_cons_zero, List.getElem_cons_succ, List.setIfInBounds_toArray, List.set_cons_zero, List.set_cons_succ])
              try rw [HW.out]
              refine wpAnyH_ready (rs := [6, 11]) (by kernel_rfl) (by simp) ?_
              refine AllReadyH.cons rfl (fun K hK => ?_) (AllReadyH.cons rfl (fun K hK => ?_) AllReadyH.nil)
              · go_simp
                refine (HF.out _).mono ?_
                rintro e w14 ⟨⟨v, rfl, nn⟩, hx⟩
                have hx := Ext.trans (show Ext w1 _ from by first | exact Ext.refl _ | exact (Ext.refl _).drew) hx
                have RC := Lib.hid (RC.out.ext hx); have X := Lib.hid (X.out.trans hx)
                obtain ⟨g1, g2, g3, g4, rfl⟩ := nn.shape
                have Ng := Lib.hid nn.rd
                clear nn hx
                first | refine hK.out _ _ ?_ (fun hHeld => ?_) | (go_wp2_with fail; refine hK.out _ _ ?_ (fun hHeld => ?_))
                · exact RC.out
                clear hK K
                (try simp only [Act.put, List.getElem_toArray, List.getElem_cons_zero, List.getElem_cons_succ, List.setIfInBounds_toArray, List.set_cons_zero, List.set_cons_succ])
                refine wpAnyH_ready (rs := [7, 11]) (by kernel_rfl) (by simp) ?_
                refine AllReadyH.cons rfl (fun K hK => ?_) (AllReadyH.cons rfl (fun K hK => ?_) AllReadyH.nil)
                · go_simp
                  have xs := XQ.out.trans X.out
                  refine (HADD.out _ _ (XQ.out.trans (X.out.trans (by first | exact Ext.refl _ | exact (Ext.refl _).drew))) (Ng.out.ext (by first | exact Ext.refl _ | exact (Ext.refl _).drew))).mono ?_
                  rintro e w15 ⟨⟨v, rfl, nn⟩, hx⟩
                  have hx := Ext.trans (show Ext w14 _ from by first | exact Ext.refl _ | exact (Ext.refl _).drew) hx
                  have RC := Lib.hid (RC.out.ext hx); have Ng := Lib.hid (Ng.out.ext hx); have X := Lib.hid (X.out.trans hx)
                  obtain ⟨s1, s2, s3, s4, rfl⟩ := nn.shape
                  have Ns := Lib.hid nn.rd
                  have Os := Lib.hid (nn.from (xs))
                  clear nn hx
                  first | refine hK.out _ _ ?_ (fun hHeld => ?_) | (go_wp2_with fail; refine hK.out _ _ ?_ (fun hHeld => ?_))
                  · exact RC.out
                  clear hK K
                  (try simp only [Act.put, List.getElem_toArray, List.getElem_cons_zero, List.getElem_cons_succ, List.setIfInBounds_toArray, List.set_cons_zero, List.set_cons_succ])
                  refine wpAnyH_take (i := 8) (v := ?_) rfl (by kernel_rfl) (by kernel_rfl) (by kernel_rfl) (fun _ _ _ h => h) (Or.inl ⟨by rfl, ?_⟩) (by assumption) ?_
                  rotate_left
                  · (intro w hSw; (try dsimp only at hSw); go_simp; first | done | with_reducible rfl)
                  (try simp only [Act.put, List.getElem_toArray, List.getElem_cons_zero, List.getElem_cons_succ, List.setIfInBounds_toArray, List.set_cons_zero, List.set_cons_succ])
                  refine wpAnyH_take (i := 9) (v := ?_) rfl (by kernel_rfl) (by kernel_rfl) (by kernel_rfl) (fun _ _ _ h => h) (Or.inl ⟨by rfl, ?_⟩) (by assumption) ?_
                  rotate_left
                  · (intro w hSw; (try dsimp only at hSw); go_simp; first | done | with_reducible rfl)
                  (try simp only [Act.put, List.getElem_toArray, List.getElem_cons_zero, List.getElem_cons_succ, List.setIfInBounds_toArray, List.set_cons_zero, List.set_cons_succ])
                  refine wpAnyH_take (i := 10) (v := ?_) rfl (by kernel_rfl) (by kernel_rfl) (by kernel_rfl) (fun _ _ _ h => h) (Or.inl ⟨by rfl, ?_⟩) (by assumption) ?_
                  rotate_left
                  · (intro w hSw; (try dsimp only at hSw); go_simp; first | done | with_reducible rfl)
                  (try simp only [Act.put, List.getElem_toArray, List.getElem_cons_zero, List.getElem_cons_succ, List.setIfInBounds_toArray, List.set_cons_zero, List.set_cons_succ])
                  refine wpAnyH_ready (rs := [11]) (by kernel_rfl) (by simp) ?_
                  refine AllReadyH.cons rfl (fun K hK => ?_) ?_
                  rotate_left
                  · exact AllReadyH.nil
                  go_simp
                  have hx : Ext w15 ((w15.alloc (.cells #[.bool false, .slice none 0 0, .slice none 0 0] 63))) := (Ext.refl _).alloc _
                  have bz : Blk ((w15.alloc (.cells #[.bool false, .slice none 0 0, .slice none 0 0] 63))) (w15.heap.size) #[.bool false, .slice none 0 0, .slice none 0 0] 63 := by have hh := (Blk.new w15 #[.bool false, .slice none 0 0, .slice none 0 0] 63); exact hh
                  obtain ⟨w16, hww16⟩ : ∃ W, W = (w15.alloc (.cells #[.bool false, .slice none 0 0, .slice none 0 0] 63)) := ⟨_, rfl⟩
                  rw [← hww16] at hx bz ⊢
                  obtain ⟨Tn, hTn⟩ : ∃ n, n = w15.heap.size := ⟨_, rfl⟩
                  have WT : Hid (w1.heap.size ≤ Tn) := Lib.hid (by have hh := X.out.size; omega)
                  rw [← hTn] at bz ⊢
                  have RC := Lib.hid (RC.out.ext hx); have Ng := Lib.hid (Ng.out.ext hx); have Ns := Lib.hid (Ns.out.ext hx); have Os := Lib.hid (Os.out.ext hx); have X := Lib.hid (X.out.trans hx)
                  have T := Lib.hid bz
                  clear hx bz hww16 hTn
                  first | refine hK.out _ _ ?_ (fun hHeld => ?_) | (go_wp2_with fail; refine hK.out _ _ ?_ (fun hHeld => ?_))
                  · exact RC.out
                  clear hK K
                  (try simp only [Act.put, List.getElem_toArray, List.getElem_cons_zero, List.getElem_cons_succ, List.setIfInBounds_toArray, List.set_cons_zero, List.set_cons_succ])
                  have qT := T.out.cell; have fT := T.out.free; have lT := T.out.lt
                  have wt := WT.out; have g9 : bb < Tn := by have := HBB.out; omega
                  have xT : Ext wr (((w16.setCell ⟨Tn, 0, none⟩ (.bool R.neg)).setCell ⟨Tn, 1, none⟩ (.slice s1 R.num.length s2)).setCell ⟨Tn, 2, none⟩ (.slice s3 R.den.length s4)) := by have := XQ.out.trans X.out; (repeat (first | (with_reducible exact Ext.refl _) | (with_reducible assumption) | (with_reducible refine Ext.alloc ?_ _) | ((with_reducible refine Ext.setp ?_ ?_); focus (dsimp only; omega)) | (with_reducible refine Ext.drew ?_) | (with_reducible refine Ext.drewN ?_ _) | (with_reducible refine Ext.trans ?_ (by assumption))))
                  have xT1 : Ext w1 (((w16.setCell ⟨Tn, 0, none⟩ (.bool R.neg)).setCell ⟨Tn, 1, none⟩ (.slice s1 R.num.length s2)).setCell ⟨Tn, 2, none⟩ (.slice s3 R.den.length s4)) := by have := X.out; (repeat (first | (with_reducible exact Ext.refl _) | (with_reducible assumption) | (with_reducible refine Ext.alloc ?_ _) | ((with_reducible refine Ext.setp ?_ ?_); focus (dsimp only; omega)) | (with_reducible refine Ext.drew ?_) | (with_reducible refine Ext.drewN ?_ _) | (with_reducible refine Ext.trans ?_ (by assumption))))
                  have XT := Lib.hid xT; have XT1 := Lib.hid xT1; clear xT xT1
                  refine wpAnyH_ready (rs := [12]) (by kernel_rfl) (by simp) ?_
                  refine AllReadyH.cons rfl (fun K hK => ?_) ?_
                  rotate_left
                  · exact AllReadyH.nil
                  go_simp
                  first | refine hK.out _ _ ?_ (fun hHeld => ?_) | (go_wp2_with fail; refine hK.out _ _ ?_ (fun hHeld => ?_))
                  · exact RowAt.ext RC1.out XT1.out
                  clear hK K
                  (try simp only [Act.put, List.getElem_toArray, List.getElem_cons_zero, List.getElem_cons_succ, List.setIfInBounds_toArray, List.set_cons_zero, List.set_cons_succ])
                  refine wpAnyH_ready (rs := [13]) (by kernel_rfl) (by simp) ?_
                  refine AllReadyH.cons rfl (fun K hK => ?_) ?_
                  rotate_left
                  · exact AllReadyH.nil
                  go_simp
                  first | refine hK.out _ _ ?_ (fun hHeld => ?_) | (go_wp2_with fail; refine hK.out _ _ ?_ (fun hHeld => ?_))
                  · exact RowAt.ext RC1.out XT1.out
                  clear hK K
                  (try simp only [Act.put, List.getElem_toArray, List.getElem_cons_zero, List.getElem_cons_succ, List.setIfInBounds_toArray, List.set_cons_zero, List.set_cons_succ])
                  refine wpAnyH_done (by kernel_rfl) ?_ _
                  clear qT fT lT
                  have nn := NewR.set3 Os.out T.out (by decide) (.bool R.neg) (.slice s1 R.num.length s2) (.slice s3 R.den.length s4)
                  have bt := ((T.out.set 0 (.bool R.neg)).set 1 (.slice s1 R.num.length s2)).set 2 (.slice s3 R.den.length s4)
                  simp only [List.setIfInBounds_toArray, List.set_cons_zero, List.set_cons_succ] at bt
                  obtain ⟨w7, hw7⟩ : ∃ W, W = (((w16.setCell ⟨Tn, 0, none⟩ (.bool R.neg)).setCell ⟨Tn, 1, none⟩ (.slice s1 R.num.length s2)).setCell ⟨Tn, 2, none⟩ (.slice s3 R.den.length s4)) := ⟨_, rfl⟩
                  rw [← hw7] at nn bt XT XT1 ⊢
                  clear hw7
                  have HO1 := Lib.hid (OwRs.ext' HO.out XT.out); have XR1 := Lib.hid (XR.out.trans XT.out); have HE := Lib.hid (ElR.new (B := w2.heap.size) nn)
                  have hz1 := XR1.out.size
                  have BT := Lib.hid bt
                  have q8 := BT.out.cell; have q9 := BT.out.lt
                  clear nn bt
                  go_wp2_with (at_builtin; (refine wpList_append_row w7 rfl _ _ 55 rfl w2.heap.size 63 (.agg #[.bool false, .slice none 0 0, .slice none 0 0]) 3 56 Try.underlying55 Try.infoR rfl (by decide) (ElR.keeps (by decide)) _ _ HO1.out rfl [.bool R.neg, .slice s1 R.num.length s2, .slice s3 R.den.length s4] rfl (by simp [Value.oneCell']) R HE.out rfl (by have := HLK2.out; omega) (by have := HLK2.out; omega) hz1 ?_))
                  intro g cap2 w99 hown2 hk2
                  have HO2 := Lib.hid hown2; have XR2 := Lib.hid (Below.trans XR1.out (hk2.below hz1))
                  clear hown2 hk2 q8 q9
                  go_wp2
                  go_roundw
                  case rel =>
                    refine ⟨k + 1, by omega, by go_num, ?_, XR2.out⟩
                    rw [HT.out]
                    exact HO2.out
                  case measure => simp [intOf]; omega
                · go_simp
                  have hx : Ext w14 ((w14.alloc (.cells #[.bool false, .slice none 0 0, .slice none 0 0] 63))) := (Ext.refl _).alloc _
                  have bz : Blk ((w14.alloc (.cells #[.bool false, .slice none 0 0, .slice none 0 0] 63))) (w14.heap.size) #[.bool false, .slice none 0 0, .slice none 0 0] 63 := by have hh := (Blk.new w14 #[.bool false, .slice none 0 0, .slice none 0 0] 63); exact hh
                  obtain ⟨w15, hww15⟩ : ∃ W, W = (w14.alloc (.cells #[.bool false, .slice none 0 0, .slice none 0 0] 63)) := ⟨_, rfl⟩
                  rw [← hww15] at hx bz ⊢
                  obtain ⟨Tn, hTn⟩ : ∃ n, n = w14.heap.size := ⟨_, rfl⟩
                  have WT : Hid (w1.heap.size ≤ Tn) := Lib.hid (by have hh := X.out.size; omega)
                  rw [← hTn] at bz ⊢
                  have RC := Lib.hid (RC.out.ext hx); have Ng := Lib.hid (Ng.out.ext hx); have X := Lib.hid (X.out.trans hx)
                  have T := Lib.hid bz
                  clear hx bz hww15 hTn
                  first | refine hK.out _ _ ?_ (fun hHeld => ?_) | (go_wp2_with fail; refine hK.out _ _ ?_ (fun hHeld => ?_))
                  · exact RC.out
                  clear hK K
                  (try simp only [Act.put, List.getElem_toArray, List.getElem_cons_zero, List.getElem_cons_succ, List.setIfInBounds_toArray, List.set_cons_zero, List.set_cons_succ])
                  have xs := XQ.out.trans X.out
                  refine wpAnyH_ready (rs := [7]) (by kernel_rfl) (by simp) ?_
                  refine AllReadyH.cons rfl (fun K hK => ?_) ?_
                  rotate_left
                  · exact AllReadyH.nil
                  go_simp
                  refine (HADD.out _ _ (XQ.out.trans (X.out.trans (by first | exact Ext.refl _ | exact (Ext.refl _).drew))) (Ng.out.ext (by first | exact Ext.refl _ | exact (Ext.refl _).drew))).mono ?_
                  rintro e w16 ⟨⟨v, rfl, nn⟩, hx⟩
                  have hx := Ext.trans (show Ext w15 _ from by first | exact Ext.refl _ | exact (Ext.refl _).drew) hx
                  have RC := Lib.hid (RC.out.ext hx); have Ng := Lib.hid (Ng.out.ext hx); have T := Lib.hid (T.out.ext hx); have X := Lib.hid (X.out.trans hx)
                  obtain ⟨s1, s2, s3, s4, rfl⟩ := nn.shape
                  have Ns := Lib.hid nn.rd
                  have Os := Lib.hid (nn.from (xs))
                  clear nn hx
                  first | refine hK.out _ _ ?_ (fun hHeld => ?_) | (go_wp2_with fail; refine hK.out _ _ ?_ (fun hHeld => ?_))
                  · exact RC.out
                  clear hK K
                  (try simp only [Act.put, List.getElem_toArray, List.getElem_cons_zero, List.getElem_cons_succ, List.setIfInBounds_toArray, List.set_cons_zero, List.set_cons_succ])
                  refine wpAnyH_take (i := 8) (v := ?_) rfl (by kernel_rfl) (by kernel_rfl) (by kernel_rfl) (fun _ _ _ h => h) (Or.inl ⟨by rfl, ?_⟩) (by assumption) ?_
                  rotate_left
                  · (intro w hSw; (try dsimp only at hSw); go_simp; first | done | with_reducible rfl)
                  (try simp only [Act.put, List.getElem_toArray, List.getElem_cons_zero, List.getElem_cons_succ, List.setIfInBounds_toArray, List.set_cons_zero, List.set_cons_succ])
                  refine wpAnyH_take (i := 9) (v := ?_) rfl (by kernel_rfl) (by kernel_rfl) (by kernel_rfl) (fun _ _ _ h => h) (Or.inl ⟨by rfl, ?_⟩) (by assumption) ?_
                  rotate_left
                  · (intro w hSw; (try dsimp only at hSw); go_simp; first | done | with_reducible rfl)
                  (try simp only [Act.put, List.getElem_toArray, List.getElem_cons_zero, List.getElem_cons_succ, List.setIfInBounds_toArray, List.set_cons_zero, List.set_cons_succ])
                  refine wpAnyH_take (i := 10) (v := ?_) rfl (by kernel_rfl) (by kernel_rfl) (by kernel_rfl) (fun _ _ _ h => h) (Or.inl ⟨by rfl, ?_⟩) (by assumption) ?_
                  rotate_left
                  · (intro w hSw; (try dsimp only at hSw); go_simp; first | done | with_reducible rfl)
                  (try simp only [Act.put, List.getElem_toArray, List.getElem_cons_zero, List.getElem_cons_succ, List.setIfInBounds_toArray, List.set_cons_zero, List.set_cons_succ])
                  have qT := T.out.cell; have fT := T.out.free; have lT := T.out.lt
                  have wt := WT.out; have g9 : bb < Tn := by have := HBB.out; omega
                  have xT : Ext wr (((w16.setCell ⟨Tn, 0, none⟩ (.bool R.neg)).setCell ⟨Tn, 1, none⟩ (.slice s1 R.num.length s2)).setCell ⟨Tn, 2, none⟩ (.slice s3 R.den.length s4)) := by have := XQ.out.trans X.out; (repeat (first | (with_reducible exact Ext.refl _) | (with_reducible assumption) | (with_reducible refine Ext.alloc ?_ _) | ((with_reducible refine Ext.setp ?_ ?_); focus (dsimp only; omega)) | (with_reducible refine Ext.drew ?_) | (with_reducible refine Ext.drewN ?_ _) | (with_reducible refine Ext.trans ?_ (by assumption))))
                  have xT1 : Ext w1 (((w16.setCell ⟨Tn, 0, none⟩ (.bool R.neg)).setCell ⟨Tn, 1, none⟩ (.slice s1 R.num.length s2)).setCell ⟨Tn, 2, none⟩ (.slice s3 R.den.length s4)) := by have := X.out; (repeat (first | (with_reducible exact Ext.refl _) | (with_reducible assumption) | (with_reducible refine Ext.alloc ?_ _) | ((with_reducible refine Ext.setp ?_ ?_); focus (dsimp only; omega)) | (with_reducible refine Ext.drew ?_) | (with_reducible refine Ext.drewN ?_ _) | (with_reducible refine Ext.trans ?_ (by assumption))))
                  have XT := Lib.hid xT; have XT1 := Lib.hid xT1; clear xT xT1
                  refine wpAnyH_ready (rs := [12]) (by kernel_rfl) (by simp) ?_
                  refine AllReadyH.cons rfl (fun K hK => ?_) ?_
                  rotate_left
                  · exact AllReadyH.nil
                  go_simp
                  first | refine hK.out _ _ ?_ (fun hHeld => ?_) | (go_wp2_with fail; refine hK.out _ _ ?_ (fun hHeld => ?_))
                  · exact RowAt.ext RC1.out XT1.out
                  clear hK K
                  (try simp only [Act.put, List.getElem_toArray, List.getElem_cons_zero, List.getElem_cons_succ, List.setIfInBounds_toArray, List.set_cons_zero, List.set_cons_succ])
                  refine wpAnyH_ready (rs := [13]) (by kernel_rfl) (by simp) ?_
                  refine AllReadyH.cons rfl (fun K hK => ?_) ?_
                  rotate_left
                  · exact AllReadyH.nil
                  go_simp
                  first | refine hK.out _ _ ?_ (fun hHeld => ?_) | (go_wp2_with fail; refine hK.out _ _ ?_ (fun hHeld => ?_))
                  · exact RowAt.ext RC1.out XT1.out
                  clear hK K
                  (try simp only [Act.put, List.getElem_toArray, List.getElem_cons_zero, List.getElem_cons_succ, List.setIfInBounds_toArray, List.set_cons_zero, List.set_cons_succ])
                  refine wpAnyH_done (by kernel_rfl) ?_ _
                  clear qT fT lT
                  have nn := NewR.set3 Os.out T.out (by decide) (.bool R.neg) (.slice s1 R.num.length s2) (.slice s3 R.den.length s4)
                  have bt := ((T.out.set 0 (.bool R.neg)).set 1 (.slice s1 R.num.length s2)).set 2 (.slice s3 R.den.length s4)
                  simp only [List.setIfInBounds_toArray, List.set_cons_zero, List.set_cons_succ] at bt
                  obtain ⟨w7, hw7⟩ : ∃ W, W = (((w16.setCell ⟨Tn, 0, none⟩ (.bool R.neg)).setCell ⟨Tn, 1, none⟩ (.slice s1 R.num.length s2)).setCell ⟨Tn, 2, none⟩ (.slice s3 R.den.length s4)) := ⟨_, rfl⟩
                  rw [← hw7] at nn bt XT XT1 ⊢
                  clear hw7
                  have HO1 := Lib.hid (OwRs.ext' HO.out XT.out); have XR1 := Lib.hid (XR.out.trans XT.out); have HE := Lib.hid (ElR.new (B := w2.heap.size) nn)
                  have hz1 := XR1.out.size
                  have BT := Lib.hid bt
                  have q8 := BT.out.cell; have q9 := BT.out.lt
                  clear nn bt
                  go_wp2_with (at_builtin; (refine wpList_append_row w7 rfl _ _ 55 rfl w2.heap.size 63 (.agg #[.bool false, .slice none 0 0, .slice none 0 0]) 3 56 Try.underlying55 Try.infoR rfl (by decide) (ElR.keeps (by decide)) _ _ HO1.out rfl [.bool R.neg, .slice s1 R.num.length s2, .slice s3 R.den.length s4] rfl (by simp [Value.oneCell']) R HE.out rfl (by have := HLK2.out; omega) (by have := HLK2.out; omega) hz1 ?_))
                  intro g cap2 w99 hown2 hk2
                  have HO2 := Lib.hid hown2; have XR2 := Lib.hid (Below.trans XR1.out (hk2.below hz1))
                  clear hown2 hk2 q8 q9
                  go_wp2
                  go_roundw
                  case rel =>
                    refine ⟨k + 1, by omega, by go_num, ?_, XR2.out⟩
                    rw [HT.out]
                    exact HO2.out
                  case measure => simp [intOf]; omega
              · go_simp
                have hx : Ext w1 ((w1.alloc (.cells #[.bool false, .slice none 0 0, .slice none 0 0] 63)).drew) := ((Ext.refl _).alloc _).drew
                have bz : Blk ((w1.alloc (.cells #[.bool false, .slice none 0 0, .slice none 0 0] 63)).drew) (w1.heap.size) #[.bool false, .slice none 0 0, .slice none 0 0] 63 := by have hh := (Blk.new w1 #[.bool false, .slice none 0 0, .slice none 0 0] 63).drew; exact hh
                obtain ⟨w14, hww14⟩ : ∃ W, W = (w1.alloc (.cells #[.bool false, .slice none 0 0, .slice none 0 0] 63)).drew := ⟨_, rfl⟩
                rw [← hww14] at hx bz ⊢
                obtain ⟨Tn, hTn⟩ : ∃ n, n = w1.heap.size := ⟨_, rfl⟩
                have WT : Hid (w1.heap.size ≤ Tn) := Lib.hid (by have hh := X.out.size; omega)
                rw [← hTn] at bz ⊢
                have RC := Lib.hid (RC.out.ext hx); have X := Lib.hid (X.out.trans hx)
                have T := Lib.hid bz
                clear hx bz hww14 hTn
                first | refine hK.out _ _ ?_ (fun hHeld => ?_) | (go_wp2_with fail; refine hK.out _ _ ?_ (fun hHeld => ?_))
                · exact RC.out
                clear hK K
                (try simp only [Act.put, List.getElem_toArray, List.getElem_cons_zero, List.getElem_cons_succ, List.setIfInBounds_toArray, List.set_cons_zero, List.set_cons_succ])
                refine wpAnyH_ready (rs := [6]) (by kernel_rfl) (by simp) ?_
                refine AllReadyH.cons rfl (fun K hK => ?_) ?_
                rotate_left
                · exact AllReadyH.nil
                go_simp
                refine (HF.out _).mono ?_
                rintro e w15 ⟨⟨v, rfl, nn⟩, hx⟩
                have hx := Ext.trans (show Ext w14 _ from by first | exact Ext.refl _ | exact (Ext.refl _).drew) hx
                have RC := Lib.hid (RC.out.ext hx); have T := Lib.hid (T.out.ext hx); have X := Lib.hid (X.out.trans hx)
                obtain ⟨g1, g2, g3, g4, rfl⟩ := nn.shape
                have Ng := Lib.hid nn.rd
                clear nn hx
                first | refine hK.out _ _ ?_ (fun hHeld => ?_) | (go_wp2_with fail; refine hK.out _ _ ?_ (fun hHeld => ?_))
                · exact RC.out
                clear hK K
                (try simp only [Act.put, List.getElem_toArray, List.getElem_cons_zero, List.getElem_cons_succ, List.setIfInBounds_toArray, List.set_cons_zero, List.set_cons_succ])
                have xs := XQ.out.trans X.out
                refine wpAnyH_ready (rs := [7]) (by kernel_rfl) (by simp) ?_
                refine AllReadyH.cons rfl (fun K hK => ?_) ?_
                rotate_left
                · exact AllReadyH.nil
                go_simp
                refine (HADD.out _ _ (XQ.out.trans (X.out.trans (by first | exact Ext.refl _ | exact (Ext.refl _).drew))) (Ng.out.ext (by first | exact Ext.refl _ | exact (Ext.refl _).drew))).mono ?_
                rintro e w16 ⟨⟨v, rfl, nn⟩, hx⟩
                have hx := Ext.trans (show Ext w15 _ from by first | exact Ext.refl _ | exact (Ext.refl _).drew) hx
                have RC := Lib.hid (RC.out.ext hx); have T := Lib.hid (T.out.ext hx); have Ng := Lib.hid (Ng.out.ext hx); have X := Lib.hid (X.out.trans hx)
                obtain ⟨s1, s2, s3, s4, rfl⟩ := nn.shape
                have Ns := Lib.hid nn.rd
                have Os := Lib.hid (nn.from (xs))
                clear nn hx
                first | refine hK.out _ _ ?_ (fun hHeld => ?_) | (go_wp2_with fail; refine hK.out _ _ ?_ (fun hHeld => ?_))
                · exact RC.out
                clear hK K
                (try simp only [Act.put, List.getElem_toArray, List.getElem_cons_zero, List.getElem_cons_succ, List.setIfInBounds_toArray, List.set_cons_zero, List.set_cons_succ])
                refine wpAnyH_take (i := 8) (v := ?_) rfl (by kernel_rfl) (by kernel_rfl) (by kernel_rfl) (fun _ _ _ h => h) (Or.inl ⟨by rfl, ?_⟩) (by assumption) ?_
                rotate_left
                · (intro w hSw; (try dsimp only at hSw); go_simp; first | done | with_reducible rfl)
                (try simp only [Act.put, List.getElem_toArray, List.getElem_cons_zero, List.getElem_cons_succ, List.setIfInBounds_toArray, List.set_cons_zero, List.set_cons_succ])
                refine wpAnyH_take (i := 9) (v := ?_) rfl (by kernel_rfl) (by kernel_rfl) (by kernel_rfl) (fun _ _ _ h => h) (Or.inl ⟨by rfl, ?_⟩) (by assumption) ?_
                rotate_left
                · (intro w hSw; (try dsimp only at hSw); go_simp; first | done | with_reducible rfl)
                (try simp only [Act.put, List.getElem_toArray, List.getElem_cons_zero, List.getElem_cons_succ, List.setIfInBounds_toArray, List.set_cons_zero, List.set_cons_succ])
                refine wpAnyH_take (i := 10) (v := ?_) rfl (by kernel_rfl) (by kernel_rfl) (by kernel_rfl) (fun _ _ _ h => h) (Or.inl ⟨by rfl, ?_⟩) (by assumption) ?_
                rotate_left
                · (intro w hSw; (try dsimp only at hSw); go_simp; first | done | with_reducible rfl)
                (try simp only [Act.put, List.getElem_toArray, List.getElem_cons_zero, List.getElem_cons_succ, List.setIfInBounds_toArray, List.set_cons_zero, List.set_cons_succ])
                have qT := T.out.cell; have fT := T.out.free; have lT := T.out.lt
                have wt := WT.out; have g9 : bb < Tn := by have := HBB.out; omega
                have xT : Ext wr (((w16.setCell ⟨Tn, 0, none⟩ (.bool R.neg)).setCell ⟨Tn, 1, none⟩ (.slice s1 R.num.length s2)).setCell ⟨Tn, 2, none⟩ (.slice s3 R.den.length s4)) := by have := XQ.out.trans X.out; (repeat (first | (with_reducible exact Ext.refl _) | (with_reducible assumption) | (with_reducible refine Ext.alloc ?_ _) | ((with_reducible refine Ext.setp ?_ ?_); focus (dsimp only; omega)) | (with_reducible refine Ext.drew ?_) | (with_reducible refine Ext.drewN ?_ _) | (with_reducible refine Ext.trans ?_ (by assumption))))
                have xT1 : Ext w1 (((w16.setCell ⟨Tn, 0, none⟩ (.bool R.neg)).setCell ⟨Tn, 1, none⟩ (.slice s1 R.num.length s2)).setCell ⟨Tn, 2, none⟩ (.slice s3 R.den.length s4)) := by have := X.out; (repeat (first | (with_reducible exact Ext.refl _) | (with_reducible assumption) | (with_reducible refine Ext.alloc ?_ _) | ((with_reducible refine Ext.setp ?_ ?_); focus (dsimp only; omega)) | (with_reducible refine Ext.drew ?_) | (with_reducible refine Ext.drewN ?_ _) | (with_reducible refine Ext.trans ?_ (by assumption))))
                have XT := Lib.hid xT; have XT1 := Lib.hid xT1; clear xT xT1
                refine wpAnyH_ready (rs := [12]) (by kernel_rfl) (by simp) ?_
                refine AllReadyH.cons rfl (fun K hK => ?_) ?_
                rotate_left
                · exact AllReadyH.nil
                go_simp
                first | refine hK.out _ _ ?_ (fun hHeld => ?_) | (go_wp2_with fail; refine hK.out _ _ ?_ (fun hHeld => ?_))
                · exact RowAt.ext RC1.out XT1.out
                clear hK K
                (try simp only [Act.put, List.getElem_toArray, List.getElem_cons_zero, List.getElem_cons_succ, List.setIfInBounds_toArray, List.set_cons_zero, List.set_cons_succ])
                refine wpAnyH_ready (rs := [13]) (by kernel_rfl) (by simp) ?_
                refine AllReadyH.cons rfl (fun K hK => ?_) ?_
                rotate_left
                · exact AllReadyH.nil
                go_simp
                first | refine hK.out _ _ ?_ (fun hHeld => ?_) | (go_wp2_with fail; refine hK.out _ _ ?_ (fun hHeld => ?_))
                · exact RowAt.ext RC1.out XT1.out
                clear hK K
                (try simp only [Act.put, List.getElem_toArray, List.getElem_cons_zero, List.getElem_cons_succ, List.setIfInBounds_toArray, List.set_cons_zero, List.set_cons_succ])
                refine wpAnyH_done (by kernel_rfl) ?_ _
                clear qT fT lT
                have nn := NewR.set3 Os.out T.out (by decide) (.bool R.neg) (.slice s1 R.num.length s2) (.slice s3 R.den.length s4)
                have bt := ((T.out.set 0 (.bool R.neg)).set 1 (.slice s1 R.num.length s2)).set 2 (.slice s3 R.den.length s4)
                simp only [List.setIfInBounds_toArray, List.set_cons_zero, List.set_cons_succ] at bt
                obtain ⟨w7, hw7⟩ : ∃ W, W = (((w16.setCell ⟨Tn, 0, none⟩ (.bool R.neg)).setCell ⟨Tn, 1, none⟩ (.slice s1 R.num.length s2)).setCell ⟨Tn, 2, none⟩ (.slice s3 R.den.length s4)) := ⟨_, rfl⟩
                rw [← hw7] at nn bt XT XT1 ⊢
                clear hw7
                have HO1 := Lib.hid (OwRs.ext' HO.out XT.out); have XR1 := Lib.hid (XR.out.trans XT.out); have HE := Lib.hid (ElR.new (B := w2.heap.size) nn)
                have hz1 := XR1.out.size
                have BT := Lib.hid bt
                have q8 := BT.out.cell; have q9 := BT.out.lt
                clear nn bt
                go_wp2_with (at_builtin; (refine wpList_append_row w7 rfl _ _ 55 rfl w2.heap.size 63 (.agg #[.bool false, .slice none 0 0, .slice none 0 0]) 3 56 Try.underlying55 Try.infoR rfl (by decide) (ElR.keeps (by decide)) _ _ HO1.out rfl [.bool R.neg, .slice s1 R.num.length s2, .slice s3 R.den.length s4] rfl (by simp [Value.oneCell']) R HE.out rfl (by have := HLK2.out; omega) (by have := HLK2.out; omega) hz1 ?_))
                intro g cap2 w99 hown2 hk2
                have HO2 := Lib.hid hown2; have XR2 := Lib.hid (Below.trans XR1.out (hk2.below hz1))
                clear hown2 hk2 q8 q9
                go_wp2
                go_roundw
                case rel =>
                  refine ⟨k + 1, by omega, by go_num, ?_, XR2.out⟩
                  rw [HT.out]
                  exact HO2.out
                case measure => simp [intOf]; omega
        · have q1 : ¬ (k : Int) < (costs.length : Int) := by omega
          have hown := HO.out
          rw [List.take_of_length_le (by rw [more_len]; omega)] at hown
          have RM := Lib.hid (OwRs.rd hown)
          have XF := Lib.hid (X.out.trans XR.out)
          clear hown
          go_wp2_with fail
          refine (LM.out _ _ RM.out (HA.out.ext XR.out)).mono ?_
          rintro e w9 ⟨rfl, hx⟩
          have XF := Lib.hid (XF.out.trans hx)
          clear hx
          go_wp2_with fail
          go_ret
          exact ⟨rfl, XF.out⟩
  · go_enter Try.func5, Try.ntmps5
    go_wp2_with fail
    refine (HWD.out _ X.out).mono ?_
    rintro e w0 ⟨rfl, hw0⟩
    have hw1 := hw0.symm
    clear hw0
    subst hw1
    go_wp2_with fail
    refine (awake28_any _).mono ?_
    rintro e w1 ⟨rfl, hx⟩
    have HC := Lib.hid (HC.out.ext hx); have HA := Lib.hid (HA.out.ext hx); have X := Lib.hid (X.out.trans hx)
    clear hx
    go_wp2_with fail
    go_ret
    exact ⟨rfl, X.out⟩

end Go.Proofs.Ytkjnhdnbgdaciaa
