/- Part of the proof of imatL_holds: what the row needs of RatRb. Conditions: as each theorem states. -/
import Derived.Test.YthkfkfbfblppeaaGreatSwRatRa
namespace Go.Proofs.YthkfkfbfblppeaaGreat
set_option linter.unusedSimpArgs false
set_option linter.unusedVariables false
open Go.RowKit
set_option maxHeartbeats 1000000 in
theorem refOf_any (p q : Int) (w : World) (h0 : -9223372036854775808 ≤ p) (h1 : p ≤ 9223372036854775807) (h2 : -9223372036854775808 ≤ q) (h3 : q ≤ 9223372036854775807) :
    Calls Tryz.prog 140 #[.int .i64 p, .int .i64 q] w fun e w' => ResR w w' e (ofR p q) ∧ Ext w w' := by
  have b0 := Blk.new w #[.bool false, .slice none 0 0, .slice none 0 0] 62
  have B0 := Lib.hid b0; have X0 := Lib.hid ((Ext.refl w).alloc (.cells #[.bool false, .slice none 0 0, .slice none 0 0] 62))
  clear b0
  by_cases hq : q = 0
  · have e : ofR p q = (zR, 14) := by unfold ofR; rw [if_pos hq]
    have E := Lib.hid e
    subst hq
    clear e
    go_enter Tryz.func140, Tryz.ntmps140
    go_wp2_with fail
    exact bodyPost_ret (v := .tuple #[.agg #[.bool false, .slice none 0 0, .slice none 0 0], .int .i64 14]) (by simp only [results, Tryz.results140]; go_simp) rfl ⟨ResR.mk (NewR.zero _ _) E.out, by (repeat (first | (with_reducible exact Ext.refl _) | (with_reducible assumption) | (with_reducible refine Ext.alloc ?_ _) | ((with_reducible refine Ext.setp ?_ ?_); focus (dsimp only; omega)) | (with_reducible refine Ext.drew ?_) | (with_reducible refine Ext.drewN ?_ _) | (with_reducible refine Ext.trans ?_ (by assumption))))⟩
  · have e : ofR p q = (rep (mkRat (sg (decide (p < 0) != decide (q < 0)) p.natAbs) q.natAbs), 0) := by unfold ofR; rw [if_neg hq]
    have hq' : (q == 0) = false := by simpa using hq
    have hnp := fun W => refNat_any p W h0 h1
    have hnq := fun W => refNat_any q W h2 h3
    have sp := lim_small64 (n := p.natAbs) (by omega)
    have sq := lim_small64 (n := q.natAbs) (by omega)
    have hz : q.natAbs ≠ 0 := by omega
    obtain ⟨P, hP⟩ : ∃ P, P = p.natAbs := ⟨_, rfl⟩
    obtain ⟨Q, hQ⟩ : ∃ Q, Q = q.natAbs := ⟨_, rfl⟩
    rw [← hP] at e hnp sp
    rw [← hQ] at e hnq sq hz
    have hmk := fun W v1 v2 h1 h2 => make_any (decide (p < 0) != decide (q < 0)) v1 v2 (lim P) (lim Q) W h1 h2 (lim_lim _) (lim_lim _) (lim_noZ _) (lim_noZ _) (Nat.le_trans sp (by decide)) (Nat.le_trans sq (by decide)) (by rw [nv_lim]; exact hz)
    rw [nv_lim, nv_lim] at hmk
    obtain ⟨RS, hRS⟩ : ∃ RS, RS = rep (mkRat (sg (decide (p < 0) != decide (q < 0)) P) Q) := ⟨_, rfl⟩
    rw [← hRS] at e hmk
    have E := Lib.hid e; have HNP := Lib.hid hnp; have HNQ := Lib.hid hnq; have HMK := Lib.hid hmk
    clear hP hQ hRS e hnp hnq hq hmk
    go_enter Tryz.func140, Tryz.ntmps140
    go_wp2_with fail
    refine (HNP.out _).mono ?_
    rintro e w1 ⟨⟨v, rfl, n1⟩, hx1⟩
    obtain ⟨a1, c1, rfl⟩ := n1.shape
    have N1 := Lib.hid n1.rd; have X1 := Lib.hid (X0.out.trans hx1); have B1 := Lib.hid (B0.out.ext hx1)
    clear n1 hx1
    go_wp2_with fail
    refine (HNQ.out _).mono ?_
    rintro e w2 ⟨⟨v, rfl, n2⟩, hx2⟩
    obtain ⟨a2, c2, rfl⟩ := n2.shape
    have N2 := Lib.hid n2.rd; have X2 := Lib.hid (X1.out.trans hx2); have B2 := Lib.hid (B1.out.ext hx2); have N1 := Lib.hid (N1.out.ext hx2)
    clear n2 hx2
    go_wp2_with fail
    refine (HMK.out _ _ _ N1.out N2.out).mono ?_
    rintro e w3 ⟨⟨v, rfl, n3⟩, hx3⟩
    obtain ⟨a3, c3, a4, c4, rfl⟩ := n3.shape
    have N3 := Lib.hid (n3.from X2.out); have X3 := Lib.hid (X2.out.trans hx3); have B3 := Lib.hid (B2.out.ext hx3)
    clear n3 hx3
    have c0 := B3.out.cell; have f0 := B3.out.free; have l0 := B3.out.lt
    go_wp2_with fail
    refine bodyPost_ret (v := .tuple #[.agg #[.bool RS.neg, .slice a3 RS.num.length c3, .slice a4 RS.den.length c4], .int .i64 0]) (by simp only [results, Tryz.results140]; go_simp) rfl ⟨ResR.mk (NewR.set3 N3.out B3.out (by decide) _ _ _) E.out, ?_⟩
    have := X3.out; (repeat (first | (with_reducible exact Ext.refl _) | (with_reducible assumption) | (with_reducible refine Ext.alloc ?_ _) | ((with_reducible refine Ext.setp ?_ ?_); focus (dsimp only; omega)) | (with_reducible refine Ext.drew ?_) | (with_reducible refine Ext.drewN ?_ _) | (with_reducible refine Ext.trans ?_ (by assumption))))
set_option maxHeartbeats 1000000 in
theorem refFromR_any (n : Int) (w : World) (h0 : -9223372036854775808 ≤ n) (h1 : n ≤ 9223372036854775807) :
    Calls Tryz.prog 61 #[.int .i64 n] w fun e w' => (∃ v, e = .returned v ∧ NewR w w' v (rep (n : Rat))) ∧ Ext w w' := by
  have b0 := Blk.new w #[.bool false, .slice none 0 0, .slice none 0 0] 62
  have B0 := Lib.hid b0; have X0 := Lib.hid ((Ext.refl w).alloc (.cells #[.bool false, .slice none 0 0, .slice none 0 0] 62))
  clear b0
  have hnp := fun W => refNat_any n W h0 h1
  have sp := lim_small64 (n := n.natAbs) (by omega)
  have esg : sg (decide (n < 0)) n.natAbs = n := by
    unfold sg
    by_cases h : n < 0
    · rw [if_pos (by simpa using h)]; omega
    · rw [if_neg (by simpa using h)]; omega
  have hmk := fun W v1 v2 h1 h2 => make_any (decide (n < 0)) v1 v2 (lim n.natAbs) [1] W h1 h2 (lim_lim _) (lims _ (by decide)) (lim_noZ _) (by simp [NoZ]) (Nat.le_trans sp (by decide)) (by simp) (by decide)
  rw [nv_lim, esg, show nv [1] = 1 from rfl] at hmk
  have hrr : rep (mkRat n 1) = rep (n : Rat) := by
    congr 1
    exact Rat.mkRat_one n
  rw [hrr] at hmk
  obtain ⟨P, hP⟩ : ∃ P, P = lim n.natAbs := ⟨_, rfl⟩
  rw [← hP] at hnp hmk
  obtain ⟨RS, hRS⟩ : ∃ RS, RS = rep (n : Rat) := ⟨_, rfl⟩
  rw [← hRS] at hmk
  rw [← hRS]
  have HNP := Lib.hid hnp; have HMK := Lib.hid hmk
  clear hP hRS hnp hmk hrr esg sp
  go_enter Tryz.func61, Tryz.ntmps61
  go_wp2_with fail
  refine (HNP.out _).mono ?_
  rintro e w1 ⟨⟨v, rfl, n1⟩, hx1⟩
  obtain ⟨a1, c1, rfl⟩ := n1.shape
  have N1 := Lib.hid n1.rd; have X1 := Lib.hid (X0.out.trans hx1); have B1 := Lib.hid (B0.out.ext hx1)
  clear n1 hx1
  go_wp2_with fail
  refine (one_any _).mono ?_
  rintro e w2 ⟨⟨v, rfl, n2⟩, hx2⟩
  obtain ⟨a2, c2, rfl⟩ := n2.shape
  have N2 := Lib.hid n2.rd; have X2 := Lib.hid (X1.out.trans hx2); have B2 := Lib.hid (B1.out.ext hx2); have N1 := Lib.hid (N1.out.ext hx2)
  clear n2 hx2
  go_wp2_with fail
  refine (HMK.out _ _ _ N1.out N2.out).mono ?_
  rintro e w3 ⟨⟨v, rfl, n3⟩, hx3⟩
  obtain ⟨a3, c3, a4, c4, rfl⟩ := n3.shape
  have N3 := Lib.hid (n3.from X2.out); have X3 := Lib.hid (X2.out.trans hx3); have B3 := Lib.hid (B2.out.ext hx3)
  clear n3 hx3
  have c0 := B3.out.cell; have f0 := B3.out.free; have l0 := B3.out.lt
  go_wp2_with fail
  refine bodyPost_ret (v := .agg #[.bool RS.neg, .slice a3 RS.num.length c3, .slice a4 RS.den.length c4]) (by simp only [results, Tryz.results61]; go_simp) rfl ⟨⟨_, rfl, NewR.set3 N3.out B3.out (by decide) _ _ _⟩, ?_⟩
  have := X3.out; (repeat (first | (with_reducible exact Ext.refl _) | (with_reducible assumption) | (with_reducible refine Ext.alloc ?_ _) | ((with_reducible refine Ext.setp ?_ ?_); focus (dsimp only; omega)) | (with_reducible refine Ext.drew ?_) | (with_reducible refine Ext.drewN ?_ _) | (with_reducible refine Ext.trans ?_ (by assumption))))
end Go.Proofs.YthkfkfbfblppeaaGreat
