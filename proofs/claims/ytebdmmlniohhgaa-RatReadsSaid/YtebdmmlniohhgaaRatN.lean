/- Walk of Neg of layer 6 (written by mkdiv.py). Conditions: as each states. -/
import Derived.Test.YtebdmmlniohhgaaRatI
namespace Go.Proofs.Ytebdmmlniohhgaa
set_option linter.unusedSimpArgs false
set_option linter.unusedVariables false
open Go.RowKit

set_option maxHeartbeats 2000000 in
theorem negR_any (va : Value) (ra : RR) (w : World) (ha : RdR w va ra) (la : LimR ra) :
    Calls Try.prog 28 #[va] w fun e w' => ResR w w' e (negR ra) ∧ Ext w w' := by
  have HCA := Lib.hid (chk_at ha la)
  have h0 := ha
  obtain ⟨a1, c1, a2, c2, rfl⟩ := ha.shape
  obtain ⟨vn, vd, ev, hn, hd⟩ := h0
  injection ev with ev
  simp only [Array.mk.injEq, List.cons.injEq, and_true, true_and] at ev
  obtain ⟨rfl, rfl⟩ := ev
  obtain ⟨s1, l1, l2⟩ := ra
  dsimp only at HCA hn hd ⊢
  have HN := Lib.hid hn; have HD := Lib.hid hd
  clear hn hd ha
  have b0 := (Blk.new w #[.bool s1, .slice a1 l1.length c1, .slice a2 l2.length c2] 26).alloc (.cells #[.bool false, .slice none 0 0, .slice none 0 0] 26)
  have b2 := Blk.new (w.alloc (.cells #[.bool s1, .slice a1 l1.length c1, .slice a2 l2.length c2] 26)) #[.bool false, .slice none 0 0, .slice none 0 0] 26
  rw [World.size_alloc] at b2
  have x0 : Ext w ((w.alloc (.cells #[.bool s1, .slice a1 l1.length c1, .slice a2 l2.length c2] 26)).alloc (.cells #[.bool false, .slice none 0 0, .slice none 0 0] 26)) := ((Ext.refl w).alloc _).alloc _
  have A0 := Lib.hid b0; have A2 := Lib.hid b2; have X0 := Lib.hid x0
  clear b0 b2 x0
  by_cases hc : chkR ⟨s1, l1, l2⟩ = 0
  · rw [hc] at HCA
    have hst := chkR_0 la hc
    have hlen1 : l1.length ≤ 128 := hst.1
    have hlen2 : l2.length ≤ 128 := hst.2.1
    have e : negR ⟨s1, l1, l2⟩ = (⟨!s1 && decide (0 < l1.length), l1, l2⟩, 0) := by
      unfold negR; rw [if_pos hc, rep_neg la hc]
    have E := Lib.hid e
    have hnz : l1.length = 0 → s1 = false := fun h => (hst.2.2.2.2.2.1 (List.length_eq_zero_iff.1 h)).1
    clear e hc hst
    cases s1
    · go_enter Try.func28, Try.ntmps28
      go_wp2_with fail
      refine (HCA.out _ X0.out).mono ?_
      rintro e w3 ⟨rfl, hx3⟩
      have P0 := Lib.hid (A0.out.ext hx3); have P2 := Lib.hid (A2.out.ext hx3); have X3 := Lib.hid (X0.out.trans hx3)
      clear hx3
      have c0 := P0.out.cell; have f0 := P0.out.free; have l0 := P0.out.lt
      have x3 := X3.out
      go_wp2_with fail
      have hmx : Try.prog.follows .mixedOrders = true := by kernel_rfl
      go_region_held3 (fun W => Blk W w.heap.size #[.bool false, .slice a1 l1.length c1, .slice a2 l2.length c2] 26 ∧ W.cell? ⟨w.heap.size, 0, none⟩ = some (.bool false) ∧ W.cell? ⟨w.heap.size, 1, none⟩ = some (.slice a1 l1.length c1) ∧ W.cell? ⟨w.heap.size, 2, none⟩ = some (.slice a2 l2.length c2))
        ((refine Blk.s3 ?_; (repeat (first | exact P0.out | exact k4 | exact k5 | refine Blk.setOther ?_ (by dsimp only; omega) _ | refine Blk.alloc ?_ _ | refine Blk.drew ?_))))
        (first | (go_at_call_of 79 (Value.slice a1 l1.length c1); refine (clone_any _ l1 _ (HN.out.ext (by (repeat (first | (with_reducible exact Ext.refl _) | (with_reducible assumption) | (with_reducible refine Ext.alloc ?_ _) | ((with_reducible refine Ext.setp ?_ ?_); focus (dsimp only; omega)) | (with_reducible refine Ext.drew ?_) | (with_reducible refine Ext.drewN ?_ _) | (with_reducible refine Ext.trans ?_ (by assumption)))))) (by omega)).mono ?_; rintro e w4 ⟨⟨v4, rfl, n4⟩, hx4⟩; obtain ⟨p4, q4, rfl⟩ := n4.shape; have e4 : Ext w3 w4 := Ext.trans (by (repeat (first | (with_reducible exact Ext.refl _) | (with_reducible assumption) | (with_reducible refine Ext.alloc ?_ _) | ((with_reducible refine Ext.setp ?_ ?_); focus (dsimp only; omega)) | (with_reducible refine Ext.drew ?_) | (with_reducible refine Ext.drewN ?_ _) | (with_reducible refine Ext.trans ?_ (by assumption))))) hx4; have k4 := P0.out.ext e4; have N4 := Lib.hid (n4.from (Ext.trans x3 (by (repeat (first | (with_reducible exact Ext.refl _) | (with_reducible assumption) | (with_reducible refine Ext.alloc ?_ _) | ((with_reducible refine Ext.setp ?_ ?_); focus (dsimp only; omega)) | (with_reducible refine Ext.drew ?_) | (with_reducible refine Ext.drewN ?_ _) | (with_reducible refine Ext.trans ?_ (by assumption))))))); have x4 := x3.trans e4; clear n4) | (go_at_call_of 79 (Value.slice a2 l2.length c2); refine (clone_any _ l2 _ (HD.out.ext (by (repeat (first | (with_reducible exact Ext.refl _) | (with_reducible assumption) | (with_reducible refine Ext.alloc ?_ _) | ((with_reducible refine Ext.setp ?_ ?_); focus (dsimp only; omega)) | (with_reducible refine Ext.drew ?_) | (with_reducible refine Ext.drewN ?_ _) | (with_reducible refine Ext.trans ?_ (by assumption)))))) (by omega)).mono ?_; rintro e w5 ⟨⟨v5, rfl, n5⟩, hx5⟩; obtain ⟨p5, q5, rfl⟩ := n5.shape; have k5 := k4.ext hx5; have x5 := x4.trans hx5; have N5 := Lib.hid (n5.from x4); have M4 := Lib.hid (N4.out.ext hx5); have R5 := Lib.hid ((P2.out.ext e4).ext hx5); have r5 := R5.out.cell; have fr5 := R5.out.free; have lr5 := R5.out.lt; clear n5))
      all_goals
        go_wp2_with fail
        refine bodyPost_ret (v := .tuple #[.agg #[.bool (!false && decide (0 < l1.length)), .slice p4 l1.length q4, .slice p5 l2.length q5], .int .i64 0]) (by simp only [results, Try.results28]; go_simp; first | done | (simp_all)) rfl ⟨?_, ?_⟩
        · rw [E.out]
          exact ⟨_, rfl, _, _, rfl, OwB.set3 M4.out R5.out (by decide) _ _ _, OwB.set3 N5.out R5.out (by decide) _ _ _⟩
        · (repeat (first | (with_reducible exact Ext.refl _) | (with_reducible assumption) | (with_reducible refine Ext.alloc ?_ _) | ((with_reducible refine Ext.setp ?_ ?_); focus (dsimp only; omega)) | (with_reducible refine Ext.drew ?_) | (with_reducible refine Ext.drewN ?_ _) | (with_reducible refine Ext.trans ?_ (by assumption))))
    · go_enter Try.func28, Try.ntmps28
      go_wp2_with fail
      refine (HCA.out _ X0.out).mono ?_
      rintro e w3 ⟨rfl, hx3⟩
      have P0 := Lib.hid (A0.out.ext hx3); have P2 := Lib.hid (A2.out.ext hx3); have X3 := Lib.hid (X0.out.trans hx3)
      clear hx3
      have c0 := P0.out.cell; have f0 := P0.out.free; have l0 := P0.out.lt
      have x3 := X3.out
      go_wp2_with fail
      have hmx : Try.prog.follows .mixedOrders = true := by kernel_rfl
      refine wp_region_held_drew (S := (fun W => Blk W w.heap.size #[.bool true, .slice a1 l1.length c1, .slice a2 l2.length c2] 26 ∧ W.cell? ⟨w.heap.size, 0, none⟩ = some (.bool true) ∧ W.cell? ⟨w.heap.size, 1, none⟩ = some (.slice a1 l1.length c1) ∧ W.cell? ⟨w.heap.size, 2, none⟩ = some (.slice a2 l2.length c2))) (by kernel_rfl) ?_ (fun hHeld => ?_)
      · (try dsimp only)
        (refine Blk.s3 ?_; (repeat (first | exact P0.out | exact k4 | exact k5 | refine Blk.setOther ?_ (by dsimp only; omega) _ | refine Blk.alloc ?_ _ | refine Blk.drew ?_)))
      refine wpAnyH_take (i := 0) (v := ?_) rfl (by kernel_rfl) (by kernel_rfl) (by kernel_rfl) (fun _ _ _ h => h) (Or.inl ⟨by rfl, ?_⟩) (by assumption) ?_
      rotate_left
      · (intro w hSw; (try dsimp only at hSw); go_simp; first | done | with_reducible rfl)
      (try simp only [Act.put, List.setIfInBounds_toArray, List.set_cons_zero, List.set_cons_succ])
      refine wpAnyH_take (i := 1) (v := ?_) rfl (by kernel_rfl) (by kernel_rfl) (by kernel_rfl) (fun _ _ _ h => h) (Or.inl ⟨by rfl, ?_⟩) (by assumption) ?_
      rotate_left
      · (intro w hSw; (try dsimp only at hSw); go_simp; first | done | with_reducible rfl)
      (try simp only [Act.put, List.setIfInBounds_toArray, List.set_cons_zero, List.set_cons_succ])
      refine wpAnyH_take (i := 2) (v := ?_) rfl (by kernel_rfl) (by kernel_rfl) (by kernel_rfl) (fun _ _ _ h => h) (Or.inl ⟨by rfl, ?_⟩) (by assumption) ?_
      rotate_left
      · (intro w hSw; (try dsimp only at hSw); go_simp; first | done | with_reducible rfl)
      (try simp only [Act.put, List.setIfInBounds_toArray, List.set_cons_zero, List.set_cons_succ])
      refine wpAnyH_take (i := 3) (v := ?_) rfl (by kernel_rfl) (by kernel_rfl) (by kernel_rfl) (fun _ _ _ h => h) (Or.inl ⟨by rfl, ?_⟩) (by assumption) ?_
      rotate_left
      · (intro w hSw; (try dsimp only at hSw); go_simp; first | done | with_reducible rfl)
      (try simp only [Act.put, List.setIfInBounds_toArray, List.set_cons_zero, List.set_cons_succ])
      refine wpAnyH_take (i := 4) (v := undef) rfl (by kernel_rfl) (by kernel_rfl) (by kernel_rfl) (fun _ _ _ h => h) (Or.inr ⟨by rfl, rfl⟩) (by assumption) ?_
      (try simp only [Act.put, List.setIfInBounds_toArray, List.set_cons_zero, List.set_cons_succ])
      refine wpAnyH_take (i := 5) (v := undef) rfl (by kernel_rfl) (by kernel_rfl) (by kernel_rfl) (fun _ _ _ h => h) (Or.inr ⟨by rfl, rfl⟩) (by assumption) ?_
      (try simp only [Act.put, List.setIfInBounds_toArray, List.set_cons_zero, List.set_cons_succ])
      refine wpAnyH_take (i := 6) (v := undef) rfl (by kernel_rfl) (by kernel_rfl) (by kernel_rfl) (fun _ _ _ h => h) (Or.inr ⟨by rfl, rfl⟩) (by assumption) ?_
      (try simp only [Act.put, List.setIfInBounds_toArray, List.set_cons_zero, List.set_cons_succ])
      refine wpAnyH_take (i := 7) (v := undef) rfl (by kernel_rfl) (by kernel_rfl) (by kernel_rfl) (fun _ _ _ h => h) (Or.inr ⟨by rfl, rfl⟩) (by assumption) ?_
      (try simp only [Act.put, List.setIfInBounds_toArray, List.set_cons_zero, List.set_cons_succ])
      refine wpAnyH_take (i := 8) (v := ?_) rfl (by kernel_rfl) (by kernel_rfl) (by kernel_rfl) (fun _ _ _ h => h) (Or.inl ⟨by rfl, ?_⟩) (by assumption) ?_
      rotate_left
      · (intro w hSw; (try dsimp only at hSw); go_simp; first | done | with_reducible rfl)
      (try simp only [Act.put, List.setIfInBounds_toArray, List.set_cons_zero, List.set_cons_succ])
      refine wpAnyH_take (i := 9) (v := ?_) rfl (by kernel_rfl) (by kernel_rfl) (by kernel_rfl) (fun _ _ _ h => h) (Or.inl ⟨by rfl, ?_⟩) (by assumption) ?_
      rotate_left
      · (intro w hSw; (try dsimp only at hSw); go_simp; first | done | with_reducible rfl)
      (try simp only [Act.put, List.setIfInBounds_toArray, List.set_cons_zero, List.set_cons_succ])
      refine wpAnyH_take (i := 10) (v := ?_) rfl (by kernel_rfl) (by kernel_rfl) (by kernel_rfl) (fun _ _ _ h => h) (Or.inl ⟨by rfl, ?_⟩) (by assumption) ?_
      rotate_left
      · (intro w hSw; (try dsimp only at hSw); go_simp; first | done | with_reducible rfl)
      (try simp only [Act.put, List.setIfInBounds_toArray, List.set_cons_zero, List.set_cons_succ])
      refine wpAnyH_take (i := 12) (v := ?_) rfl (by kernel_rfl) (by kernel_rfl) (by kernel_rfl) (fun _ _ _ h => h) (Or.inl ⟨by rfl, ?_⟩) (by assumption) ?_
      rotate_left
      · (intro w hSw; (try dsimp only at hSw); go_simp; first | done | with_reducible rfl)
      (try simp only [Act.put, List.setIfInBounds_toArray, List.set_cons_zero, List.set_cons_succ])
      refine wpAnyH_take (i := 13) (v := ?_) rfl (by kernel_rfl) (by kernel_rfl) (by kernel_rfl) (fun _ _ _ h => h) (Or.inl ⟨by rfl, ?_⟩) (by assumption) ?_
      rotate_left
      · (intro w hSw; (try dsimp only at hSw); go_simp; first | done | with_reducible rfl)
      (try simp only [Act.put, List.setIfInBounds_toArray, List.set_cons_zero, List.set_cons_succ])
      refine wpAnyH_ready (rs := [11]) (by kernel_rfl) (by simp) ?_
      refine AllReadyH.cons rfl (fun K hK => ?_) ?_
      rotate_left
      · exact AllReadyH.nil
      go_simp
      go_at_call_of 79 (Value.slice a1 l1.length c1); refine (clone_any _ l1 _ (HN.out.ext (by (repeat (first | (with_reducible exact Ext.refl _) | (with_reducible assumption) | (with_reducible refine Ext.alloc ?_ _) | ((with_reducible refine Ext.setp ?_ ?_); focus (dsimp only; omega)) | (with_reducible refine Ext.drew ?_) | (with_reducible refine Ext.drewN ?_ _) | (with_reducible refine Ext.trans ?_ (by assumption)))))) (by omega)).mono ?_; rintro e w4 ⟨⟨v4, rfl, n4⟩, hx4⟩; obtain ⟨p4, q4, rfl⟩ := n4.shape; have e4 : Ext w3 w4 := Ext.trans (by (repeat (first | (with_reducible exact Ext.refl _) | (with_reducible assumption) | (with_reducible refine Ext.alloc ?_ _) | ((with_reducible refine Ext.setp ?_ ?_); focus (dsimp only; omega)) | (with_reducible refine Ext.drew ?_) | (with_reducible refine Ext.drewN ?_ _) | (with_reducible refine Ext.trans ?_ (by assumption))))) hx4; have k4 := P0.out.ext e4; have N4 := Lib.hid (n4.from (Ext.trans x3 (by (repeat (first | (with_reducible exact Ext.refl _) | (with_reducible assumption) | (with_reducible refine Ext.alloc ?_ _) | ((with_reducible refine Ext.setp ?_ ?_); focus (dsimp only; omega)) | (with_reducible refine Ext.drew ?_) | (with_reducible refine Ext.drewN ?_ _) | (with_reducible refine Ext.trans ?_ (by assumption))))))); have x4 := x3.trans e4; clear n4
      first | refine hK.out _ _ ?_ (fun hHeld => ?_) | (go_wp2_with fail; refine hK.out _ _ ?_ (fun hHeld => ?_))
      · (try dsimp only)
        (refine Blk.s3 ?_; (repeat (first | exact P0.out | exact k4 | exact k5 | refine Blk.setOther ?_ (by dsimp only; omega) _ | refine Blk.alloc ?_ _ | refine Blk.drew ?_)))
      clear hK K
      (try simp only [Act.put, List.setIfInBounds_toArray, List.set_cons_zero, List.set_cons_succ])
      refine wpAnyH_ready (rs := [14]) (by kernel_rfl) (by simp) ?_
      refine AllReadyH.cons rfl (fun K hK => ?_) ?_
      rotate_left
      · exact AllReadyH.nil
      go_simp
      go_at_call_of 79 (Value.slice a2 l2.length c2); refine (clone_any _ l2 _ (HD.out.ext (by (repeat (first | (with_reducible exact Ext.refl _) | (with_reducible assumption) | (with_reducible refine Ext.alloc ?_ _) | ((with_reducible refine Ext.setp ?_ ?_); focus (dsimp only; omega)) | (with_reducible refine Ext.drew ?_) | (with_reducible refine Ext.drewN ?_ _) | (with_reducible refine Ext.trans ?_ (by assumption)))))) (by omega)).mono ?_; rintro e w5 ⟨⟨v5, rfl, n5⟩, hx5⟩; obtain ⟨p5, q5, rfl⟩ := n5.shape; have k5 := k4.ext hx5; have x5 := x4.trans hx5; have N5 := Lib.hid (n5.from x4); have M4 := Lib.hid (N4.out.ext hx5); have R5 := Lib.hid ((P2.out.ext e4).ext hx5); have r5 := R5.out.cell; have fr5 := R5.out.free; have lr5 := R5.out.lt; clear n5
      first | refine hK.out _ _ ?_ (fun hHeld => ?_) | (go_wp2_with fail; refine hK.out _ _ ?_ (fun hHeld => ?_))
      · (try dsimp only)
        (refine Blk.s3 ?_; (repeat (first | exact P0.out | exact k4 | exact k5 | refine Blk.setOther ?_ (by dsimp only; omega) _ | refine Blk.alloc ?_ _ | refine Blk.drew ?_)))
      clear hK K
      (try simp only [Act.put, List.setIfInBounds_toArray, List.set_cons_zero, List.set_cons_succ])
      refine wpAnyH_take (i := 15) (v := ?_) rfl (by kernel_rfl) (by kernel_rfl) (by kernel_rfl) (fun _ _ _ h => h) (Or.inl ⟨by rfl, ?_⟩) (by assumption) ?_
      rotate_left
      · (intro w hSw; (try dsimp only at hSw); go_simp; first | done | with_reducible rfl)
      (try simp only [Act.put, List.setIfInBounds_toArray, List.set_cons_zero, List.set_cons_succ])
      refine wpAnyH_ready (rs := [16]) (by kernel_rfl) (by simp) ?_
      refine AllReadyH.cons rfl (fun K hK => ?_) ?_
      rotate_left
      · exact AllReadyH.nil
      go_simp
      first | refine hK.out _ _ ?_ (fun hHeld => ?_) | (go_wp2_with fail; refine hK.out _ _ ?_ (fun hHeld => ?_))
      · (try dsimp only)
        (refine Blk.s3 ?_; (repeat (first | exact P0.out | exact k4 | exact k5 | refine Blk.setOther ?_ (by dsimp only; omega) _ | refine Blk.alloc ?_ _ | refine Blk.drew ?_)))
      clear hK K
      (try simp only [Act.put, List.setIfInBounds_toArray, List.set_cons_zero, List.set_cons_succ])
      refine wpAnyH_ready (rs := [17]) (by kernel_rfl) (by simp) ?_
      refine AllReadyH.cons rfl (fun K hK => ?_) ?_
      rotate_left
      · exact AllReadyH.nil
      go_simp
      first | refine hK.out _ _ ?_ (fun hHeld => ?_) | (go_wp2_with fail; refine hK.out _ _ ?_ (fun hHeld => ?_))
      · (try dsimp only)
        (refine Blk.s3 ?_; (repeat (first | exact P0.out | exact k4 | exact k5 | refine Blk.setOther ?_ (by dsimp only; omega) _ | refine Blk.alloc ?_ _ | refine Blk.drew ?_)))
      clear hK K
      (try simp only [Act.put, List.setIfInBounds_toArray, List.set_cons_zero, List.set_cons_succ])
      refine wpAnyH_done (by kernel_rfl) ?_ _
      go_wp2_with fail
      refine bodyPost_ret (v := .tuple #[.agg #[.bool (!true && decide (0 < l1.length)), .slice p4 l1.length q4, .slice p5 l2.length q5], .int .i64 0]) (by simp only [results, Try.results28]; go_simp; first | done | (simp_all)) rfl ⟨?_, ?_⟩
      · rw [E.out]
        exact ⟨_, rfl, _, _, rfl, OwB.set3 M4.out R5.out (by decide) _ _ _, OwB.set3 N5.out R5.out (by decide) _ _ _⟩
      · (repeat (first | (with_reducible exact Ext.refl _) | (with_reducible assumption) | (with_reducible refine Ext.alloc ?_ _) | ((with_reducible refine Ext.setp ?_ ?_); focus (dsimp only; omega)) | (with_reducible refine Ext.drew ?_) | (with_reducible refine Ext.drewN ?_ _) | (with_reducible refine Ext.trans ?_ (by assumption))))
  · have e : negR ⟨s1, l1, l2⟩ = (zR, chkR ⟨s1, l1, l2⟩) := by unfold negR; rw [if_neg hc]
    obtain ⟨cc, hcc⟩ : ∃ cc, cc = chkR ⟨s1, l1, l2⟩ := ⟨_, rfl⟩
    rw [← hcc] at HCA hc e
    have E := Lib.hid e
    have hcb' : (cc != 0) = true := by simpa using hc
    clear e hc hcc
    go_enter Try.func28, Try.ntmps28
    go_wp2_with fail
    refine (HCA.out _ X0.out).mono ?_
    rintro e w3 ⟨rfl, hx3⟩
    have P2 := A2.out.ext hx3; have X3 := Lib.hid (X0.out.trans hx3)
    clear hx3
    have c0 := P2.cell; have f0 := P2.free; have l0 := P2.lt
    go_wp2_with fail
    refine bodyPost_ret (v := .tuple #[.agg #[.bool false, .slice none 0 0, .slice none 0 0], .int .i64 cc]) (by simp only [results, Try.results28]; go_simp) rfl ⟨ResR.mk (NewR.zero _ _) E.out, ?_⟩
    have := X3.out; (repeat (first | (with_reducible exact Ext.refl _) | (with_reducible assumption) | (with_reducible refine Ext.alloc ?_ _) | ((with_reducible refine Ext.setp ?_ ?_); focus (dsimp only; omega)) | (with_reducible refine Ext.drew ?_) | (with_reducible refine Ext.drewN ?_ _) | (with_reducible refine Ext.trans ?_ (by assumption))))

end Go.Proofs.Ytebdmmlniohhgaa
