/- Walks of Div, Neg, Abs of layer 6 (written by mkdiv.py). Conditions: as each states. -/
import Derived.Test.YtebdmmlniohhgaaRatH
namespace Go.Proofs.Ytebdmmlniohhgaa
set_option linter.unusedSimpArgs false
set_option linter.unusedVariables false
open Go.RowKit

set_option maxHeartbeats 4000000 in
theorem divR_any (va vb : Value) (ra rb : RR) (w : World) (ha : RdR w va ra) (hb : RdR w vb rb) (la : LimR ra) (lb : LimR rb) :
    Calls Try.prog 27 #[va, vb] w fun e w' => ResR w w' e (divR ra rb) ∧ Ext w w' := by
  have HCA := Lib.hid (chk_at ha la); have HCB := Lib.hid (chk_at hb lb)
  have ho := fun h0 W (x : Ext w W) => operate_div va vb ra rb W (ha.ext x) (hb.ext x) la lb h0
  obtain ⟨a1, c1, a2, c2, rfl⟩ := ha.shape
  obtain ⟨a3, c3, a4, c4, rfl⟩ := hb.shape
  obtain ⟨s1, l1, l2⟩ := ra
  obtain ⟨s2, l3, l4⟩ := rb
  dsimp only at HCA HCB ho ⊢
  clear ha hb
  have b0 := ((Blk.new w #[.bool s1, .slice a1 l1.length c1, .slice a2 l2.length c2] 26).alloc (.cells #[.bool s2, .slice a3 l3.length c3, .slice a4 l4.length c4] 26)).alloc (.cells #[.bool false, .slice none 0 0, .slice none 0 0] 26)
  have b1 := (Blk.new (w.alloc (.cells #[.bool s1, .slice a1 l1.length c1, .slice a2 l2.length c2] 26)) #[.bool s2, .slice a3 l3.length c3, .slice a4 l4.length c4] 26).alloc (.cells #[.bool false, .slice none 0 0, .slice none 0 0] 26)
  have b2 := Blk.new ((w.alloc (.cells #[.bool s1, .slice a1 l1.length c1, .slice a2 l2.length c2] 26)).alloc (.cells #[.bool s2, .slice a3 l3.length c3, .slice a4 l4.length c4] 26)) #[.bool false, .slice none 0 0, .slice none 0 0] 26
  rw [World.size_alloc] at b1
  rw [World.size_alloc, World.size_alloc] at b2
  have x0 : Ext w (((w.alloc (.cells #[.bool s1, .slice a1 l1.length c1, .slice a2 l2.length c2] 26)).alloc (.cells #[.bool s2, .slice a3 l3.length c3, .slice a4 l4.length c4] 26)).alloc (.cells #[.bool false, .slice none 0 0, .slice none 0 0] 26)) := (((Ext.refl w).alloc _).alloc _).alloc _
  have A0 := Lib.hid b0; have A1 := Lib.hid b1; have A2 := Lib.hid b2
  clear b0 b1 b2
  obtain ⟨ca, hca⟩ : ∃ ca, ca = chkR ⟨s1, l1, l2⟩ := ⟨_, rfl⟩
  obtain ⟨cb, hcb⟩ : ∃ cb, cb = chkR ⟨s2, l3, l4⟩ := ⟨_, rfl⟩
  have hdef : chkR2 ⟨s1, l1, l2⟩ ⟨s2, l3, l4⟩ = orE ca cb := by unfold chkR2; rw [hca, hcb]
  rw [← hca] at HCA
  rw [← hcb] at HCB
  have hor := fun g W h => orE_any ca cb g W h
  rw [← hdef] at hor
  obtain ⟨cc, hcc⟩ : ∃ cc, cc = chkR2 ⟨s1, l1, l2⟩ ⟨s2, l3, l4⟩ := ⟨_, rfl⟩
  rw [← hcc] at hor
  have HOR := Lib.hid hor
  obtain ⟨R, hR⟩ : ∃ R, R = divR ⟨s1, l1, l2⟩ ⟨s2, l3, l4⟩ := ⟨_, rfl⟩
  rw [← hR]
  have HR := Lib.hid hR; have HCC := Lib.hid hcc; have HO := Lib.hid ho
  clear hca hcb hdef hor hcc hR ho
  go_enter Try.func27, Try.ntmps27
  go_wp2_with fail
  have hmx : Try.prog.follows .mixedOrders = true := by kernel_rfl
  go_region_held3 (fun W => (Blk W w.heap.size #[.bool s1, .slice a1 l1.length c1, .slice a2 l2.length c2] 26 ∧ W.cell? ⟨w.heap.size, 0, none⟩ = some (.bool s1) ∧ W.cell? ⟨w.heap.size, 1, none⟩ = some (.slice a1 l1.length c1) ∧ W.cell? ⟨w.heap.size, 2, none⟩ = some (.slice a2 l2.length c2)) ∧ (Blk W (w.heap.size + 1) #[.bool s2, .slice a3 l3.length c3, .slice a4 l4.length c4] 26 ∧ W.cell? ⟨w.heap.size + 1, 0, none⟩ = some (.bool s2) ∧ W.cell? ⟨w.heap.size + 1, 1, none⟩ = some (.slice a3 l3.length c3) ∧ W.cell? ⟨w.heap.size + 1, 2, none⟩ = some (.slice a4 l4.length c4)))
    ((refine ⟨Blk.s3 ?_, Blk.s3 ?_⟩ <;> (repeat (first | exact A0.out | exact A1.out | exact k1 | exact k2 | exact k4 | exact k5 | exact k7 | exact k8 | refine Blk.setOther ?_ (by dsimp only; omega) _ | refine Blk.alloc ?_ _ | refine Blk.drew ?_))))
    (first | (go_at_call_of 23 (Value.slice a1 l1.length c1); refine (HCA.out _ (by (repeat (first | (with_reducible exact Ext.refl _) | (with_reducible assumption) | (with_reducible refine Ext.alloc ?_ _) | ((with_reducible refine Ext.setp ?_ ?_); focus (dsimp only; omega)) | (with_reducible refine Ext.drew ?_) | (with_reducible refine Ext.drewN ?_ _) | (with_reducible refine Ext.trans ?_ (by assumption)))))).mono ?_; rintro e W4 ⟨rfl, hx4⟩; have x4 := Ext.trans x0 (Ext.trans (by (repeat (first | (with_reducible exact Ext.refl _) | (with_reducible assumption) | (with_reducible refine Ext.alloc ?_ _) | ((with_reducible refine Ext.setp ?_ ?_); focus (dsimp only; omega)) | (with_reducible refine Ext.drew ?_) | (with_reducible refine Ext.drewN ?_ _) | (with_reducible refine Ext.trans ?_ (by assumption))))) hx4); have k1 := A0.out.ext (Ext.trans (by (repeat (first | (with_reducible exact Ext.refl _) | (with_reducible assumption) | (with_reducible refine Ext.alloc ?_ _) | ((with_reducible refine Ext.setp ?_ ?_); focus (dsimp only; omega)) | (with_reducible refine Ext.drew ?_) | (with_reducible refine Ext.drewN ?_ _) | (with_reducible refine Ext.trans ?_ (by assumption))))) hx4); have k2 := A1.out.ext (Ext.trans (by (repeat (first | (with_reducible exact Ext.refl _) | (with_reducible assumption) | (with_reducible refine Ext.alloc ?_ _) | ((with_reducible refine Ext.setp ?_ ?_); focus (dsimp only; omega)) | (with_reducible refine Ext.drew ?_) | (with_reducible refine Ext.drewN ?_ _) | (with_reducible refine Ext.trans ?_ (by assumption))))) hx4); have k3 := A2.out.ext (Ext.trans (by (repeat (first | (with_reducible exact Ext.refl _) | (with_reducible assumption) | (with_reducible refine Ext.alloc ?_ _) | ((with_reducible refine Ext.setp ?_ ?_); focus (dsimp only; omega)) | (with_reducible refine Ext.drew ?_) | (with_reducible refine Ext.drewN ?_ _) | (with_reducible refine Ext.trans ?_ (by assumption))))) hx4)) | (go_at_call_of 23 (Value.slice a3 l3.length c3); refine (HCB.out _ (by (repeat (first | (with_reducible exact Ext.refl _) | (with_reducible assumption) | (with_reducible refine Ext.alloc ?_ _) | ((with_reducible refine Ext.setp ?_ ?_); focus (dsimp only; omega)) | (with_reducible refine Ext.drew ?_) | (with_reducible refine Ext.drewN ?_ _) | (with_reducible refine Ext.trans ?_ (by assumption)))))).mono ?_; rintro e W5 ⟨rfl, hx5⟩; have x5 := x4.trans hx5; have k4 := k1.ext hx5; have k5 := k2.ext hx5; have k6 := k3.ext hx5) | (go_at_call 77; refine (HOR.out _ _ (Blk.new W5 _ _)).mono ?_; rintro e W6 ⟨rfl, hx6⟩; have x6 := (x5.alloc _).trans hx6; have k7 := (k4.alloc _).ext hx6; have k8 := (k5.alloc _).ext hx6; have k9 := (k6.alloc _).ext hx6))
  have G6 := Lib.hid k7; have H6 := Lib.hid k8; have R6 := Lib.hid k9; have X6 := Lib.hid x6
  clear k1 k2 k3 k4 k5 k6 k7 k8 k9 hx4 hx5 hx6 x4 x5 x6 A0 A1 A2 x0
  have c9 := R6.out.cell; have f9 := R6.out.free; have l9 := R6.out.lt; have g9 := G6.out.cell; have lg9 := G6.out.lt; have h9 := H6.out.cell; have lh9 := H6.out.lt
  by_cases hc : cc = 0
  · have hcb' : (cc != 0) = false := by simpa using hc
    by_cases hz : l3.length = 0
    · have hz' : ((l3.length : Int) == 0) = true := by simpa using hz
      have e : R = (zR, 14) := by rw [HR.out]; unfold divR opR; rw [if_pos (HCC.out.symm.trans hc), if_pos (List.length_eq_zero_iff.1 hz)]
      have E := Lib.hid e
      clear e hc hz
      go_wp2_with fail
      refine bodyPost_ret (v := .tuple #[.agg #[.bool false, .slice none 0 0, .slice none 0 0], .int .i64 14]) (by simp only [results, Try.results27]; go_simp) rfl ⟨ResR.mk (NewR.zero _ _) E.out, ?_⟩
      have := X6.out; (repeat (first | (with_reducible exact Ext.refl _) | (with_reducible assumption) | (with_reducible refine Ext.alloc ?_ _) | ((with_reducible refine Ext.setp ?_ ?_); focus (dsimp only; omega)) | (with_reducible refine Ext.drew ?_) | (with_reducible refine Ext.drewN ?_ _) | (with_reducible refine Ext.trans ?_ (by assumption))))
    · have hz' : ((l3.length : Int) == 0) = false := by simpa using hz
      have e : R = opR ⟨s1, l1, l2⟩ ⟨s2, l3, l4⟩ (fitR (qv ⟨s1, l1, l2⟩ / qv ⟨s2, l3, l4⟩)) := by
        rw [HR.out]; unfold divR; rw [if_neg (fun e => hz (by rw [show l3 = [] from e]; rfl))]
      have ho := HO.out (fun e => hz (by rw [show l3 = [] from e]; rfl))
      rw [← e] at ho
      have HO2 := Lib.hid ho
      clear e hc hz ho
      go_wp2_with fail
      refine (HO2.out _ X6.out).mono ?_
      rintro e w1 ⟨⟨v1, rfl, n1⟩, hx1⟩
      obtain ⟨a5, c5, a6, c6, rfl⟩ := n1.shape
      have B1 := Lib.hid (R6.out.ext hx1); have X1 := Lib.hid (X6.out.trans hx1); have N1 := Lib.hid (n1.from X6.out)
      clear hx1 n1 c9 f9 l9 g9 lg9 h9 lh9
      have c0 := B1.out.cell; have f0 := B1.out.free; have l0 := B1.out.lt
      obtain ⟨R1, R2⟩ := R
      dsimp only at *
      go_wp2_with fail
      refine bodyPost_ret (v := .tuple #[.agg #[.bool R1.neg, .slice a5 R1.num.length c5, .slice a6 R1.den.length c6], .int .i64 R2]) (by simp only [results, Try.results27]; go_simp) rfl ⟨ResR.mk (NewR.set3 N1.out B1.out (by decide) _ _ _) rfl, ?_⟩
      have := X1.out; (repeat (first | (with_reducible exact Ext.refl _) | (with_reducible assumption) | (with_reducible refine Ext.alloc ?_ _) | ((with_reducible refine Ext.setp ?_ ?_); focus (dsimp only; omega)) | (with_reducible refine Ext.drew ?_) | (with_reducible refine Ext.drewN ?_ _) | (with_reducible refine Ext.trans ?_ (by assumption))))
  · have hcb' : (cc != 0) = true := by simpa using hc
    have e : R = (zR, cc) := by rw [HR.out]; unfold divR opR; rw [if_neg (fun e => hc (HCC.out.trans e)), ← HCC.out]
    have E := Lib.hid e
    clear e hc
    go_wp2_with fail
    refine bodyPost_ret (v := .tuple #[.agg #[.bool false, .slice none 0 0, .slice none 0 0], .int .i64 cc]) (by simp only [results, Try.results27]; go_simp) rfl ⟨ResR.mk (NewR.zero _ _) E.out, ?_⟩
    have := X6.out; (repeat (first | (with_reducible exact Ext.refl _) | (with_reducible assumption) | (with_reducible refine Ext.alloc ?_ _) | ((with_reducible refine Ext.setp ?_ ?_); focus (dsimp only; omega)) | (with_reducible refine Ext.drew ?_) | (with_reducible refine Ext.drewN ?_ _) | (with_reducible refine Ext.trans ?_ (by assumption))))

theorem rep_neg {r : RR} (hl : LimR r) (h : chkR r = 0) : rep (- qv r) = ⟨!r.neg && decide (0 < r.num.length), r.num, r.den⟩ := by
  obtain ⟨e1, e2, e3⟩ := valid_rep hl h
  have hz := chkR_0 hl h
  have e4 : rep (- qv r) = ⟨decide (-(qv r).num < 0), (rep (qv r)).num, (rep (qv r)).den⟩ := by
    unfold rep
    rw [Rat.neg_num, Rat.neg_den, Int.natAbs_neg]
  rw [e4, e3, e1]
  congr 1
  by_cases h0 : r.num = []
  · rw [h0, (hz.2.2.2.2.2.1 h0).1]; rfl
  · have hn := nv_ne hl.1 hz.2.2.1 h0
    have hp : 0 < r.num.length := List.length_pos_iff.2 h0
    rw [decide_eq_true hp, Bool.and_true]
    unfold sg
    cases r.neg
    · simp <;> omega
    · simp <;> omega

set_option maxHeartbeats 2000000 in
theorem absR_any (va : Value) (ra : RR) (w : World) (ha : RdR w va ra) (la : LimR ra) :
    Calls Try.prog 30 #[va] w fun e w' => ResR w w' e (absR ra) ∧ Ext w w' := by
  have HCA := Lib.hid (chk_at ha la)
  have h0 := ha
  obtain ⟨a1, c1, a2, c2, rfl⟩ := ha.shape
  obtain ⟨vn, vd, ev, hn, hd⟩ := h0
  injection ev with ev
  simp only [Array.mk.injEq, List.cons.injEq, and_true, true_and] at ev
  obtain ⟨rfl, rfl⟩ := ev
  obtain ⟨s1, l1, l2⟩ := ra
  dsimp only at HCA hn hd ⊢
  have HN := Lib.hid hn; have HD := Lib.hid hd
  clear hn hd ha
  have b0 := (Blk.new w #[.bool s1, .slice a1 l1.length c1, .slice a2 l2.length c2] 26).alloc (.cells #[.bool false, .slice none 0 0, .slice none 0 0] 26)
  have b2 := Blk.new (w.alloc (.cells #[.bool s1, .slice a1 l1.length c1, .slice a2 l2.length c2] 26)) #[.bool false, .slice none 0 0, .slice none 0 0] 26
  rw [World.size_alloc] at b2
  have x0 : Ext w ((w.alloc (.cells #[.bool s1, .slice a1 l1.length c1, .slice a2 l2.length c2] 26)).alloc (.cells #[.bool false, .slice none 0 0, .slice none 0 0] 26)) := ((Ext.refl w).alloc _).alloc _
  have A0 := Lib.hid b0; have A2 := Lib.hid b2; have X0 := Lib.hid x0
  clear b0 b2 x0
  by_cases hc : chkR ⟨s1, l1, l2⟩ = 0
  · rw [hc] at HCA
    have hst := chkR_0 la hc
    have hlen1 : l1.length ≤ 128 := hst.1
    have hlen2 : l2.length ≤ 128 := hst.2.1
    have e : absR ⟨s1, l1, l2⟩ = (⟨false, l1, l2⟩, 0) := by
      unfold absR; rw [if_pos hc]
    have E := Lib.hid e
    have hnz : l1.length = 0 → s1 = false := fun h => (hst.2.2.2.2.2.1 (List.length_eq_zero_iff.1 h)).1
    clear e hc hst
    all_goals
      go_enter Try.func30, Try.ntmps30
      go_wp2_with fail
      refine (HCA.out _ X0.out).mono ?_
      rintro e w3 ⟨rfl, hx3⟩
      have P0 := Lib.hid (A0.out.ext hx3); have P2 := Lib.hid (A2.out.ext hx3); have X3 := Lib.hid (X0.out.trans hx3)
      clear hx3
      have c0 := P0.out.cell; have f0 := P0.out.free; have l0 := P0.out.lt
      have x3 := X3.out
      go_wp2_with fail
      have hmx : Try.prog.follows .mixedOrders = true := by kernel_rfl
      go_region_held3 (fun W => Blk W w.heap.size #[.bool s1, .slice a1 l1.length c1, .slice a2 l2.length c2] 26 ∧ W.cell? ⟨w.heap.size, 0, none⟩ = some (.bool s1) ∧ W.cell? ⟨w.heap.size, 1, none⟩ = some (.slice a1 l1.length c1) ∧ W.cell? ⟨w.heap.size, 2, none⟩ = some (.slice a2 l2.length c2))
        ((refine Blk.s3 ?_; (repeat (first | exact P0.out | exact k4 | exact k5 | refine Blk.setOther ?_ (by dsimp only; omega) _ | refine Blk.alloc ?_ _ | refine Blk.drew ?_))))
        (first | (go_at_call_of 79 (Value.slice a1 l1.length c1); refine (clone_any _ l1 _ (HN.out.ext (by (repeat (first | (with_reducible exact Ext.refl _) | (with_reducible assumption) | (with_reducible refine Ext.alloc ?_ _) | ((with_reducible refine Ext.setp ?_ ?_); focus (dsimp only; omega)) | (with_reducible refine Ext.drew ?_) | (with_reducible refine Ext.drewN ?_ _) | (with_reducible refine Ext.trans ?_ (by assumption)))))) (by omega)).mono ?_; rintro e w4 ⟨⟨v4, rfl, n4⟩, hx4⟩; obtain ⟨p4, q4, rfl⟩ := n4.shape; have e4 : Ext w3 w4 := Ext.trans (by (repeat (first | (with_reducible exact Ext.refl _) | (with_reducible assumption) | (with_reducible refine Ext.alloc ?_ _) | ((with_reducible refine Ext.setp ?_ ?_); focus (dsimp only; omega)) | (with_reducible refine Ext.drew ?_) | (with_reducible refine Ext.drewN ?_ _) | (with_reducible refine Ext.trans ?_ (by assumption))))) hx4; have k4 := P0.out.ext e4; have N4 := Lib.hid (n4.from (Ext.trans x3 (by (repeat (first | (with_reducible exact Ext.refl _) | (with_reducible assumption) | (with_reducible refine Ext.alloc ?_ _) | ((with_reducible refine Ext.setp ?_ ?_); focus (dsimp only; omega)) | (with_reducible refine Ext.drew ?_) | (with_reducible refine Ext.drewN ?_ _) | (with_reducible refine Ext.trans ?_ (by assumption))))))); have x4 := x3.trans e4; clear n4) | (go_at_call_of 79 (Value.slice a2 l2.length c2); refine (clone_any _ l2 _ (HD.out.ext (by (repeat (first | (with_reducible exact Ext.refl _) | (with_reducible assumption) | (with_reducible refine Ext.alloc ?_ _) | ((with_reducible refine Ext.setp ?_ ?_); focus (dsimp only; omega)) | (with_reducible refine Ext.drew ?_) | (with_reducible refine Ext.drewN ?_ _) | (with_reducible refine Ext.trans ?_ (by assumption)))))) (by omega)).mono ?_; rintro e w5 ⟨⟨v5, rfl, n5⟩, hx5⟩; obtain ⟨p5, q5, rfl⟩ := n5.shape; have k5 := k4.ext hx5; have x5 := x4.trans hx5; have N5 := Lib.hid (n5.from x4); have M4 := Lib.hid (N4.out.ext hx5); have R5 := Lib.hid ((P2.out.ext e4).ext hx5); have r5 := R5.out.cell; have fr5 := R5.out.free; have lr5 := R5.out.lt; clear n5))
      all_goals
        go_wp2_with fail
        refine bodyPost_ret (v := .tuple #[.agg #[.bool (false), .slice p4 l1.length q4, .slice p5 l2.length q5], .int .i64 0]) (by simp only [results, Try.results30]; go_simp; first | done | (cases s1 <;> simp_all)) rfl ⟨?_, ?_⟩
        · rw [E.out]
          exact ⟨_, rfl, _, _, rfl, OwB.set3 M4.out R5.out (by decide) _ _ _, OwB.set3 N5.out R5.out (by decide) _ _ _⟩
        · (repeat (first | (with_reducible exact Ext.refl _) | (with_reducible assumption) | (with_reducible refine Ext.alloc ?_ _) | ((with_reducible refine Ext.setp ?_ ?_); focus (dsimp only; omega)) | (with_reducible refine Ext.drew ?_) | (with_reducible refine Ext.drewN ?_ _) | (with_reducible refine Ext.trans ?_ (by assumption))))
  · have e : absR ⟨s1, l1, l2⟩ = (zR, chkR ⟨s1, l1, l2⟩) := by unfold absR; rw [if_neg hc]
    obtain ⟨cc, hcc⟩ : ∃ cc, cc = chkR ⟨s1, l1, l2⟩ := ⟨_, rfl⟩
    rw [← hcc] at HCA hc e
    have E := Lib.hid e
    have hcb' : (cc != 0) = true := by simpa using hc
    clear e hc hcc
    go_enter Try.func30, Try.ntmps30
    go_wp2_with fail
    refine (HCA.out _ X0.out).mono ?_
    rintro e w3 ⟨rfl, hx3⟩
    have P2 := A2.out.ext hx3; have X3 := Lib.hid (X0.out.trans hx3)
    clear hx3
    have c0 := P2.cell; have f0 := P2.free; have l0 := P2.lt
    go_wp2_with fail
    refine bodyPost_ret (v := .tuple #[.agg #[.bool false, .slice none 0 0, .slice none 0 0], .int .i64 cc]) (by simp only [results, Try.results30]; go_simp) rfl ⟨ResR.mk (NewR.zero _ _) E.out, ?_⟩
    have := X3.out; (repeat (first | (with_reducible exact Ext.refl _) | (with_reducible assumption) | (with_reducible refine Ext.alloc ?_ _) | ((with_reducible refine Ext.setp ?_ ?_); focus (dsimp only; omega)) | (with_reducible refine Ext.drew ?_) | (with_reducible refine Ext.drewN ?_ _) | (with_reducible refine Ext.trans ?_ (by assumption))))

end Go.Proofs.Ytebdmmlniohhgaa
