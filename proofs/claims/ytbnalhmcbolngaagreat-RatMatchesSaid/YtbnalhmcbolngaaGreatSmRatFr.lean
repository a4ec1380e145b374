/- Part of the proof of mat6_holds: what the row needs of RatFr. Conditions: as each theorem states. -/
import Derived.Test.YtbnalhmcbolngaaGreatSmGJ
import Derived.Test.YtbnalhmcbolngaaGreatSmRatSa
import Derived.Test.YtbnalhmcbolngaaGreatSmRefF
namespace Go.Proofs.YtbnalhmcbolngaaGreat
set_option linter.unusedSimpArgs false
set_option linter.unusedVariables false
open Go.RowKit
set_option maxRecDepth 100000 in
set_option maxHeartbeats 4000000 in
theorem refFloorR_any (va : Value) (ra : RR) (w : World) (ha : RdR w va ra) (la : LimR ra) :
    Calls Tryz.prog 57 #[va] w fun e w' => e = .returned (.tuple #[.int .i64 (floorR ra).1, .int .i64 (floorR ra).2]) ∧ Ext w w' := by
  have HCA := Lib.hid (fun W (x : Ext w W) => refCheckR_any va ra W (ha.ext x) la)
  have HDE := Lib.hid (fun W (x : Ext w W) => den_any va ra W (ha.ext x))
  obtain ⟨a1, c1, a2, c2, rfl, hn, hd⟩ := ha.parts
  obtain ⟨s1, l1, l2⟩ := ra
  dsimp only at HCA HDE hn hd ⊢
  have N1 := Lib.hid hn
  clear ha hn hd
  have bb0 := (Blk.new w #[.bool s1, .slice a1 l1.length c1, .slice a2 l2.length c2] 33)
  have x0 : Ext w (w.alloc (.cells #[.bool s1, .slice a1 l1.length c1, .slice a2 l2.length c2] 33)) := ((Ext.refl w).alloc _)
  have A0 := Lib.hid bb0; have X := Lib.hid x0
  clear x0 bb0
  have N1 := Lib.hid (N1.out.ext X.out)
  by_cases hc : chkR ⟨s1, l1, l2⟩ = 0
  · rw [hc] at HCA
    obtain ⟨v1, v2, v3, v4, v5, v6⟩ := valid_len la hc
    dsimp only at v1 v2 v3 v4 v5 v6
    have hfl := floor_flA la hc
    dsimp only at hfl
    rw [← nv_dl] at hfl
    obtain ⟨A, hA⟩ : ∃ A, A = flA s1 (nv l1) (nv (dl l2)) := ⟨_, rfl⟩
    rw [← hA] at hfl
    have e : floorR ⟨s1, l1, l2⟩ = if -9223372036854775808 ≤ sg s1 A ∧ sg s1 A ≤ 9223372036854775807 then (sg s1 A, 0) else (0, 7) := by unfold floorR; rw [if_pos hc, hfl]
    have hq1 : (lim (nv l1 / nv (dl l2))).length ≤ 128 := Nat.le_trans (lim_len_le.2 (Nat.lt_of_le_of_lt (Nat.div_le_self _ _) (nv_lt la.1))) v1
    have hdv := fun W va vb ha hb => refDivide_any va vb l1 (dl l2) W ha hb la.1 v6 v3 v4 (by omega) (by omega) (Nat.pos_of_ne_zero v5)
    obtain ⟨q, hq⟩ : ∃ q, q = nv l1 / nv (dl l2) := ⟨_, rfl⟩
    obtain ⟨m, hm⟩ : ∃ m, m = nv l1 % nv (dl l2) := ⟨_, rfl⟩
    unfold flA at hA
    rw [← hq] at hA hq1 hdv
    rw [← hm] at hA hdv
    have hpl := fun W va vb ha hb => sum_any va vb (lim q) [1] W ha hb (lim_lim _) (lims [1] (by decide)) (by omega) (by decide)
    rw [nv_lim, show nv [1] = 1 from rfl] at hpl
    obtain ⟨ld, hld⟩ : ∃ x, x = dl l2 := ⟨_, rfl⟩
    rw [← hld] at HDE hdv
    have E := Lib.hid e; have HAA := Lib.hid hA; have HDV := Lib.hid hdv; have HPL := Lib.hid hpl
    clear e hA hdv hpl hfl hq hm hld v2 v3 v4 v5 v6 v1 hc la
    go_enter Tryz.func57, Tryz.ntmps57
    have qA0 := A0.out.cell; have fA0 := A0.out.free; have lA0 := A0.out.lt
    go_wp2_with fail
    refine (HCA.out _ X.out).mono ?_
    rintro e w1 ⟨rfl, hx⟩
    clear qA0 fA0 lA0
    have N1 := Lib.hid (N1.out.ext hx); have A0 := Lib.hid (A0.out.ext hx); have X := Lib.hid (X.out.trans hx)
    clear hx
    go_wp2_with fail
    refine wp_region_held_drew (S := (fun W => (Blk W w.heap.size #[.bool s1, .slice a1 l1.length c1, .slice a2 l2.length c2] 33 ∧ W.cell? ⟨w.heap.size, 0, none⟩ = some (.bool s1) ∧ W.cell? ⟨w.heap.size, 1, none⟩ = some (.slice a1 l1.length c1) ∧ W.cell? ⟨w.heap.size, 2, none⟩ = some (.slice a2 l2.length c2)))) (by kernel_rfl) ?_ (fun hHeld => ?_)
    · exact Blk.s3 A0.out.drew
    refine wpAnyH_take (i := 0) (v := ?_) rfl (by kernel_rfl) (by kernel_rfl) (by kernel_rfl) (fun _ _ _ h => h) (Or.inl ⟨by rfl, ?_⟩) (by assumption) ?_
    rotate_left
    · (intro w hSw; (try dsimp only at hSw); go_simp; first | done | with_reducible rfl)
    (try simp only [Act.put, List.getElem_toArray, List.getElem_cons_zero, List.getElem_cons_succ, List.setIfInBounds_toArray, List.set_cons_zero, List.set_cons_succ])
    refine wpAnyH_take (i := 1) (v := ?_) rfl (by kernel_rfl) (by kernel_rfl) (by kernel_rfl) (fun _ _ _ h => h) (Or.inl ⟨by rfl, ?_⟩) (by assumption) ?_
    rotate_left
    · (intro w hSw; (try dsimp only at hSw); go_simp; first | done | with_reducible rfl)
    (try simp only [Act.put, List.getElem_toArray, List.getElem_cons_zero, List.getElem_cons_succ, List.setIfInBounds_toArray, List.set_cons_zero, List.set_cons_succ])
    refine wpAnyH_take (i := 2) (v := ?_) rfl (by kernel_rfl) (by kernel_rfl) (by kernel_rfl) (fun _ _ _ h => h) (Or.inl ⟨by rfl, ?_⟩) (by assumption) ?_
    rotate_left
    · (intro w hSw; (try dsimp only at hSw); go_simp; first | done | with_reducible rfl)
    (try simp only [Act.put, List.getElem_toArray, List.getElem_cons_zero, List.getElem_cons_succ, List.setIfInBounds_toArray, List.set_cons_zero, List.set_cons_succ])
    refine wpAnyH_ready (rs := [3]) (by kernel_rfl) (by simp) ?_
    refine AllReadyH.cons rfl (fun K hK => ?_) ?_
    rotate_left
    · exact AllReadyH.nil
    go_simp
    refine (HDE.out _ (Ext.trans X.out (by first | exact Ext.refl _ | exact (Ext.refl _).drew))).mono ?_
    rintro e w2 ⟨⟨v, rfl, nn⟩, hx⟩
    have hx := Ext.trans (show Ext w1 _ from by first | exact Ext.refl _ | exact (Ext.refl _).drew) hx
    have N1 := Lib.hid (N1.out.ext hx); have A0 := Lib.hid (A0.out.ext hx); have X := Lib.hid (X.out.trans hx)
    obtain ⟨u1, u2, rfl⟩ := rdU_shape nn
    have Nu := Lib.hid nn
    clear nn hx
    first | refine hK.out _ _ ?_ (fun hHeld => ?_) | (go_wp2_with fail; refine hK.out _ _ ?_ (fun hHeld => ?_))
    · exact Blk.s3 A0.out
    clear hK K
    (try simp only [Act.put, List.getElem_toArray, List.getElem_cons_zero, List.getElem_cons_succ, List.setIfInBounds_toArray, List.set_cons_zero, List.set_cons_succ])
    refine wpAnyH_ready (rs := [4]) (by kernel_rfl) (by simp) ?_
    refine AllReadyH.cons rfl (fun K hK => ?_) ?_
    rotate_left
    · exact AllReadyH.nil
    go_simp
    refine (HDV.out _ _ _ (N1.out.ext (by first | exact Ext.refl _ | exact (Ext.refl _).drew)) (Nu.out.ext (by first | exact Ext.refl _ | exact (Ext.refl _).drew))).mono ?_
    rintro e w3 ⟨⟨vq, vr, rfl, nq, nr⟩, hx⟩
    have hx := Ext.trans (show Ext w2 _ from by first | exact Ext.refl _ | exact (Ext.refl _).drew) hx
    have N1 := Lib.hid (N1.out.ext hx); have A0 := Lib.hid (A0.out.ext hx); have Nu := Lib.hid (Nu.out.ext hx); have X := Lib.hid (X.out.trans hx)
    obtain ⟨aq, cq, rfl⟩ := nq.shape; obtain ⟨ar, cr, rfl⟩ := nr.shape
    have NQ := Lib.hid nq.rd
    clear nq nr hx
    first | refine hK.out _ _ ?_ (fun hHeld => ?_) | (go_wp2_with fail; refine hK.out _ _ ?_ (fun hHeld => ?_))
    · exact Blk.s3 A0.out
    clear hK K
    (try simp only [Act.put, List.getElem_toArray, List.getElem_cons_zero, List.getElem_cons_succ, List.setIfInBounds_toArray, List.set_cons_zero, List.set_cons_succ])
    refine wpAnyH_take (i := 5) (v := ?_) rfl (by kernel_rfl) (by kernel_rfl) (by kernel_rfl) (fun _ _ _ h => h) (Or.inl ⟨by rfl, ?_⟩) (by assumption) ?_
    rotate_left
    · (intro w hSw; (try dsimp only at hSw); go_simp; first | done | with_reducible rfl)
    (try simp only [Act.put, List.getElem_toArray, List.getElem_cons_zero, List.getElem_cons_succ, List.setIfInBounds_toArray, List.set_cons_zero, List.set_cons_succ])
    refine wpAnyH_take (i := 6) (v := ?_) rfl (by kernel_rfl) (by kernel_rfl) (by kernel_rfl) (fun _ _ _ h => h) (Or.inl ⟨by rfl, ?_⟩) (by assumption) ?_
    rotate_left
    · (intro w hSw; (try dsimp only at hSw); go_simp; first | done | with_reducible rfl)
    (try simp only [Act.put, List.getElem_toArray, List.getElem_cons_zero, List.getElem_cons_succ, List.setIfInBounds_toArray, List.set_cons_zero, List.set_cons_succ])
    refine wpAnyH_take (i := 7) (v := ?_) rfl (by kernel_rfl) (by kernel_rfl) (by kernel_rfl) (fun _ _ _ h => h) (Or.inl ⟨by rfl, ?_⟩) (by assumption) ?_
    rotate_left
    · (intro w hSw; (try dsimp only at hSw); go_simp; first | done | with_reducible rfl)
    (try simp only [Act.put, List.getElem_toArray, List.getElem_cons_zero, List.getElem_cons_succ, List.setIfInBounds_toArray, List.set_cons_zero, List.set_cons_succ])
    refine wpAnyH_take (i := 8) (v := ?_) rfl (by kernel_rfl) (by kernel_rfl) (by kernel_rfl) (fun _ _ _ h => h) (Or.inl ⟨by rfl, ?_⟩) (by assumption) ?_
    rotate_left
    · (intro w hSw; (try dsimp only at hSw); go_simp; first | done | with_reducible rfl)
    (try simp only [Act.put, List.getElem_toArray, List.getElem_cons_zero, List.getElem_cons_succ, List.setIfInBounds_toArray, List.set_cons_zero, List.set_cons_succ])
    refine wpAnyH_take (i := 9) (v := ?_) rfl (by kernel_rfl) (by kernel_rfl) (by kernel_rfl) (fun _ _ _ h => h) (Or.inl ⟨by rfl, ?_⟩) (by assumption) ?_
    rotate_left
    · (intro w hSw; (try dsimp only at hSw); go_simp; first | done | with_reducible rfl)
    (try simp only [Act.put, List.getElem_toArray, List.getElem_cons_zero, List.getElem_cons_succ, List.setIfInBounds_toArray, List.set_cons_zero, List.set_cons_succ])
    refine wpAnyH_done (by kernel_rfl) ?_ _
    have XL := X; have NQL := NQ
    cases s1
    all_goals (have X := XL; have NQ := NQL)
    · have hAq : A = q := by rw [HAA.out]; simp
      have hA5 : (lim A).length ≤ 512 := by rw [hAq]; omega
      rw [← hAq] at NQ
      subst hAq
      have NA := NQ
      have qA0 := A0.out.cell; have fA0 := A0.out.free; have lA0 := A0.out.lt
      go_wp2_with fail
      have hin := fun W (x : Ext w3 W) => refInt_any _ (lim A) W (NA.out.ext x) (lim_lim _)
      rw [intS_lim hA5] at hin
      clear qA0 fA0 lA0
      have qA0 := A0.out.cell; have fA0 := A0.out.free; have lA0 := A0.out.lt
      go_wp2_with fail
      by_cases hbig : A < 18446744073709551616
      · rw [if_pos hbig] at hin
        have HIN := Lib.hid hin; clear hin
        refine (HIN.out _ (by first | exact Ext.refl _ | exact (Ext.refl _).drew)).mono ?_
        rintro e w4 ⟨rfl, hx⟩
        clear qA0 fA0 lA0
        have A0 := Lib.hid (A0.out.ext hx); have Nu := Lib.hid (Nu.out.ext hx); have NQ := Lib.hid (NQ.out.ext hx); have NA := Lib.hid (NA.out.ext hx); have X := Lib.hid (X.out.trans hx)
        clear hx
        have qA0 := A0.out.cell; have fA0 := A0.out.free; have lA0 := A0.out.lt
        by_cases h63 : A < 9223372036854775808
        · have e : floorR ⟨false, l1, l2⟩ = ((A : Int), 0) := by rw [E.out, if_pos (by unfold sg; simp only [Bool.false_eq_true, if_false]; omega)]; rfl
          have E2 := Lib.hid e; clear e
          have q9 : (A : Int) ≤ 9223372036854775807 := by omega
          have q10 : ((A : Int) == 9223372036854775808) = false := beq_eq_false_iff_ne.2 (by omega)
          have q11 : ¬ (9223372036854775808 : Int) < (A : Int) := by omega
          clear h63 hbig
          go_wp2_with fail
          all_goals
            go_ret2
            exact ⟨by rw [E2.out]; first | rfl | (simp only [wrap_neg A (by omega)]; rfl), X.out⟩
        · by_cases hgt : 9223372036854775808 < A
          · have e : floorR ⟨false, l1, l2⟩ = (0, 7) := by rw [E.out, if_neg (by unfold sg; simp only [Bool.false_eq_true, if_false]; omega)]
            have E2 := Lib.hid e; clear e
            have q9 : (9223372036854775808 : Int) < (A : Int) := by omega
            clear h63 hgt hbig
            go_wp2_with fail
            all_goals
              go_ret2
              exact ⟨by rw [E2.out]; first | rfl | (simp only [wrap_neg A (by omega)]; rfl), X.out⟩
          · have e : floorR ⟨false, l1, l2⟩ = (0, 7) := by rw [E.out, if_neg (by unfold sg; simp only [Bool.false_eq_true, if_false]; omega)]
            have E2 := Lib.hid e; clear e
            have q9 : ¬ (9223372036854775808 : Int) < (A : Int) := by omega
            have q10 : ((A : Int) == 9223372036854775808) = true := beq_iff_eq.2 (by omega)
            clear h63 hgt hbig
            go_wp2_with fail
            all_goals
              go_ret2
              exact ⟨by rw [E2.out]; first | rfl | (simp only [wrap_neg A (by omega)]; rfl), X.out⟩
      · rw [if_neg hbig] at hin
        have e : floorR ⟨false, l1, l2⟩ = (0, 7) := by rw [E.out, if_neg (by unfold sg; simp only [Bool.false_eq_true, if_false]; omega)]
        have HIN := Lib.hid hin; have E2 := Lib.hid e; clear hin e hbig
        refine (HIN.out _ (by first | exact Ext.refl _ | exact (Ext.refl _).drew)).mono ?_
        rintro e w4 ⟨rfl, hx⟩
        clear qA0 fA0 lA0
        have A0 := Lib.hid (A0.out.ext hx); have Nu := Lib.hid (Nu.out.ext hx); have NQ := Lib.hid (NQ.out.ext hx); have NA := Lib.hid (NA.out.ext hx); have X := Lib.hid (X.out.trans hx)
        clear hx
        have qA0 := A0.out.cell; have fA0 := A0.out.free; have lA0 := A0.out.lt
        go_wp2_with fail
        go_ret2
        exact ⟨by rw [E2.out]; rfl, X.out⟩
    · by_cases hm0 : 0 < m
      · have hAq : A = q + 1 := by rw [HAA.out, if_pos ⟨rfl, hm0⟩]
        have hA5 : (lim A).length ≤ 512 := by
          rw [hAq]
          have := len_sum (x := q) (y := 1) (k := 200) (by omega) (by rw [lim_one]; simp) (Nat.le_refl _)
          omega
        rw [← hAq] at HPL
        have hml : (0 : Int) < ((lim m).length : Int) := by
          have : lim m ≠ [] := fun e => by have := nv_lim m; rw [e] at this; rw [show nv [] = 0 from rfl] at this; omega
          have := List.length_pos_iff.2 this
          omega
        clear hAq hm0
        have qA0 := A0.out.cell; have fA0 := A0.out.free; have lA0 := A0.out.lt
        go_wp2_with fail
        refine (one_any _).mono ?_
        rintro e w4 ⟨⟨v, rfl, nn⟩, hx⟩
        clear qA0 fA0 lA0
        have A0 := Lib.hid (A0.out.ext hx); have Nu := Lib.hid (Nu.out.ext hx); have NQ := Lib.hid (NQ.out.ext hx); have X := Lib.hid (X.out.trans hx)
        obtain ⟨o1, o2, rfl⟩ := nn.shape
        have No := Lib.hid nn.rd
        clear nn hx
        go_wp2_with fail
        refine (HPL.out _ _ _ NQ.out No.out).mono ?_
        rintro e w5 ⟨⟨v, rfl, nn⟩, hx⟩
        have A0 := Lib.hid (A0.out.ext hx); have Nu := Lib.hid (Nu.out.ext hx); have NQ := Lib.hid (NQ.out.ext hx); have No := Lib.hid (No.out.ext hx); have X := Lib.hid (X.out.trans hx)
        obtain ⟨p1, p2, rfl⟩ := nn.shape
        have Np := Lib.hid nn.rd
        clear nn hx
        have NA := Np
        have hin := fun W (x : Ext w5 W) => refInt_any _ (lim A) W (NA.out.ext x) (lim_lim _)
        rw [intS_lim hA5] at hin
        have qA0 := A0.out.cell; have fA0 := A0.out.free; have lA0 := A0.out.lt
        go_wp2_with fail
        by_cases hbig : A < 18446744073709551616
        · rw [if_pos hbig] at hin
          have HIN := Lib.hid hin; clear hin
          refine (HIN.out _ (by first | exact Ext.refl _ | exact (Ext.refl _).drew)).mono ?_
          rintro e w6 ⟨rfl, hx⟩
          clear qA0 fA0 lA0
          have A0 := Lib.hid (A0.out.ext hx); have Nu := Lib.hid (Nu.out.ext hx); have NQ := Lib.hid (NQ.out.ext hx); have No := Lib.hid (No.out.ext hx); have Np := Lib.hid (Np.out.ext hx); have NA := Lib.hid (NA.out.ext hx); have X := Lib.hid (X.out.trans hx)
          clear hx
          have qA0 := A0.out.cell; have fA0 := A0.out.free; have lA0 := A0.out.lt
          by_cases h63 : A ≤ 9223372036854775808
          · by_cases heq : A = 9223372036854775808
            · have e : floorR ⟨true, l1, l2⟩ = (-(A : Int), 0) := by rw [E.out, if_pos (by unfold sg; simp only [if_true]; omega)]; rfl
              have E2 := Lib.hid e; clear e
              have q9 : (A : Int) ≤ 9223372036854775808 := by omega
              have q11 : ¬ (9223372036854775808 : Int) < (A : Int) := by omega
              have q10 : ((A : Int) == 9223372036854775808) = true := beq_iff_eq.2 (by omega)
              clear heq h63 hbig
              go_wp2_with fail
              all_goals
                go_ret2
                exact ⟨by rw [E2.out]; first | rfl | (simp only [wrap_neg A (by omega)]; rfl), X.out⟩
            · have e : floorR ⟨true, l1, l2⟩ = (-(A : Int), 0) := by rw [E.out, if_pos (by unfold sg; simp only [if_true]; omega)]; rfl
              have E2 := Lib.hid e; clear e
              have q9 : (A : Int) ≤ 9223372036854775808 := by omega
              have q11 : ¬ (9223372036854775808 : Int) < (A : Int) := by omega
              have q10 : ((A : Int) == 9223372036854775808) = false := beq_eq_false_iff_ne.2 (by omega)
              clear heq h63 hbig
              go_wp2_with fail
              all_goals
                go_ret2
                exact ⟨by rw [E2.out]; first | rfl | (simp only [wrap_neg A (by omega)]; rfl), X.out⟩
          · have e : floorR ⟨true, l1, l2⟩ = (0, 7) := by rw [E.out, if_neg (by unfold sg; simp only [if_true]; omega)]
            have E2 := Lib.hid e; clear e
            have q9 : (9223372036854775808 : Int) < (A : Int) := by omega
            clear h63 hbig
            go_wp2_with fail
            all_goals
              go_ret2
              exact ⟨by rw [E2.out]; first | rfl | (simp only [wrap_neg A (by omega)]; rfl), X.out⟩
        · rw [if_neg hbig] at hin
          have e : floorR ⟨true, l1, l2⟩ = (0, 7) := by rw [E.out, if_neg (by unfold sg; simp only [if_true]; omega)]
          have HIN := Lib.hid hin; have E2 := Lib.hid e; clear hin e hbig
          refine (HIN.out _ (by first | exact Ext.refl _ | exact (Ext.refl _).drew)).mono ?_
          rintro e w6 ⟨rfl, hx⟩
          clear qA0 fA0 lA0
          have A0 := Lib.hid (A0.out.ext hx); have Nu := Lib.hid (Nu.out.ext hx); have NQ := Lib.hid (NQ.out.ext hx); have No := Lib.hid (No.out.ext hx); have Np := Lib.hid (Np.out.ext hx); have NA := Lib.hid (NA.out.ext hx); have X := Lib.hid (X.out.trans hx)
          clear hx
          have qA0 := A0.out.cell; have fA0 := A0.out.free; have lA0 := A0.out.lt
          go_wp2_with fail
          go_ret2
          exact ⟨by rw [E2.out]; rfl, X.out⟩
      · have hAq : A = q := by rw [HAA.out, if_neg (fun h => hm0 h.2)]
        have hA5 : (lim A).length ≤ 512 := by rw [hAq]; omega
        have hm1 : m = 0 := by omega
        subst hAq
        subst hm1
        have NA := NQ
        have qA0 := A0.out.cell; have fA0 := A0.out.free; have lA0 := A0.out.lt
        go_wp2_with fail
        have hin := fun W (x : Ext w3 W) => refInt_any _ (lim A) W (NA.out.ext x) (lim_lim _)
        rw [intS_lim hA5] at hin
        clear qA0 fA0 lA0
        have qA0 := A0.out.cell; have fA0 := A0.out.free; have lA0 := A0.out.lt
        go_wp2_with fail
        by_cases hbig : A < 18446744073709551616
        · rw [if_pos hbig] at hin
          have HIN := Lib.hid hin; clear hin
          refine (HIN.out _ (by first | exact Ext.refl _ | exact (Ext.refl _).drew)).mono ?_
          rintro e w4 ⟨rfl, hx⟩
          clear qA0 fA0 lA0
          have A0 := Lib.hid (A0.out.ext hx); have Nu := Lib.hid (Nu.out.ext hx); have NQ := Lib.hid (NQ.out.ext hx); have NA := Lib.hid (NA.out.ext hx); have X := Lib.hid (X.out.trans hx)
          clear hx
          have qA0 := A0.out.cell; have fA0 := A0.out.free; have lA0 := A0.out.lt
          by_cases h63 : A ≤ 9223372036854775808
          · by_cases heq : A = 9223372036854775808
            · have e : floorR ⟨true, l1, l2⟩ = (-(A : Int), 0) := by rw [E.out, if_pos (by unfold sg; simp only [if_true]; omega)]; rfl
              have E2 := Lib.hid e; clear e
              have q9 : (A : Int) ≤ 9223372036854775808 := by omega
              have q11 : ¬ (9223372036854775808 : Int) < (A : Int) := by omega
              have q10 : ((A : Int) == 9223372036854775808) = true := beq_iff_eq.2 (by omega)
              clear heq h63 hbig
              go_wp2_with fail
              all_goals
                go_ret2
                exact ⟨by rw [E2.out]; first | rfl | (simp only [wrap_neg A (by omega)]; rfl), X.out⟩
            · have e : floorR ⟨true, l1, l2⟩ = (-(A : Int), 0) := by rw [E.out, if_pos (by unfold sg; simp only [if_true]; omega)]; rfl
              have E2 := Lib.hid e; clear e
              have q9 : (A : Int) ≤ 9223372036854775808 := by omega
              have q11 : ¬ (9223372036854775808 : Int) < (A : Int) := by omega
              have q10 : ((A : Int) == 9223372036854775808) = false := beq_eq_false_iff_ne.2 (by omega)
              clear heq h63 hbig
              go_wp2_with fail
              all_goals
                go_ret2
                exact ⟨by rw [E2.out]; first | rfl | (simp only [wrap_neg A (by omega)]; rfl), X.out⟩
          · have e : floorR ⟨true, l1, l2⟩ = (0, 7) := by rw [E.out, if_neg (by unfold sg; simp only [if_true]; omega)]
            have E2 := Lib.hid e; clear e
            have q9 : (9223372036854775808 : Int) < (A : Int) := by omega
            clear h63 hbig
            go_wp2_with fail
            all_goals
              go_ret2
              exact ⟨by rw [E2.out]; first | rfl | (simp only [wrap_neg A (by omega)]; rfl), X.out⟩
        · rw [if_neg hbig] at hin
          have e : floorR ⟨true, l1, l2⟩ = (0, 7) := by rw [E.out, if_neg (by unfold sg; simp only [if_true]; omega)]
          have HIN := Lib.hid hin; have E2 := Lib.hid e; clear hin e hbig
          refine (HIN.out _ (by first | exact Ext.refl _ | exact (Ext.refl _).drew)).mono ?_
          rintro e w4 ⟨rfl, hx⟩
          clear qA0 fA0 lA0
          have A0 := Lib.hid (A0.out.ext hx); have Nu := Lib.hid (Nu.out.ext hx); have NQ := Lib.hid (NQ.out.ext hx); have NA := Lib.hid (NA.out.ext hx); have X := Lib.hid (X.out.trans hx)
          clear hx
          have qA0 := A0.out.cell; have fA0 := A0.out.free; have lA0 := A0.out.lt
          go_wp2_with fail
          go_ret2
          exact ⟨by rw [E2.out]; rfl, X.out⟩
  · have e : floorR ⟨s1, l1, l2⟩ = (0, chkR ⟨s1, l1, l2⟩) := by unfold floorR; rw [if_neg hc]
    obtain ⟨cc, hcc⟩ : ∃ cc, cc = chkR ⟨s1, l1, l2⟩ := ⟨_, rfl⟩
    rw [← hcc] at HCA hc e
    have E := Lib.hid e
    have hcb' : (cc != 0) = true := by simpa using hc
    clear e hc hcc
    go_enter Tryz.func57, Tryz.ntmps57
    have qA0 := A0.out.cell; have fA0 := A0.out.free; have lA0 := A0.out.lt
    go_wp2_with fail
    refine (HCA.out _ X.out).mono ?_
    rintro e w1 ⟨rfl, hx⟩
    clear qA0 fA0 lA0
    have N1 := Lib.hid (N1.out.ext hx); have A0 := Lib.hid (A0.out.ext hx); have X := Lib.hid (X.out.trans hx)
    clear hx
    go_wp2_with fail
    go_ret2
    exact ⟨by rw [E.out]; rfl, X.out⟩
end Go.Proofs.YtbnalhmcbolngaaGreat
