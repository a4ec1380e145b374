/- Walks of natural, From, Of and of the operations' closures of layer 6. Conditions: as each states. -/
import Derived.Test.YtebdmmlniohhgaaRatD
namespace Go.Proofs.Ytebdmmlniohhgaa
set_option linter.unusedSimpArgs false
set_option linter.unusedVariables false
open Go.RowKit

theorem from_int (k : Int) (n : Nat) (w : World) (hn : n < 18446744073709551616) (hk : k = n) :
    Calls Try.prog 35 #[.int .u64 k] w fun e w' => (∃ v, e = .returned v ∧ NewV w w' v (lim n)) ∧ Ext w w' := by
  subst hk; exact from_any n w hn

theorem naturalR_any (n : Int) (w : World) (h0 : -9223372036854775808 ≤ n) (h1 : n ≤ 9223372036854775807) :
    Calls Try.prog 66 #[.int .i64 n] w fun e w' => (∃ v, e = .returned v ∧ NewV w w' v (lim n.natAbs)) ∧ Ext w w' := by
  by_cases hn : n < 0
  · have hf := fun k hk W => from_int k n.natAbs W (by omega) hk
    have HF := Lib.hid hf
    obtain ⟨m, hm⟩ : ∃ m, m = n.natAbs := ⟨_, rfl⟩
    rw [← hm] at HF ⊢
    have hmn : (m : Int) = -n := by omega
    clear hf hm
    go_enter Try.func66, Try.ntmps66
    go_wp2_with fail
    refine (HF.out _ (by first | omega | (simp [IntKind.wrap, IntKind.signed, IntKind.bits]; omega)) _).mono ?_
    rintro e w1 ⟨⟨v, rfl, n1⟩, hx1⟩
    obtain ⟨a1, c1, rfl⟩ := n1.shape
    have N1 := Lib.hid n1; have X1 := Lib.hid hx1
    clear n1 hx1
    go_wp2_with fail
    go_ret
    exact ⟨⟨_, rfl, N1.out⟩, X1.out⟩
  · have hf := fun k hk W => from_int k n.natAbs W (by omega) hk
    have HF := Lib.hid hf
    obtain ⟨m, hm⟩ : ∃ m, m = n.natAbs := ⟨_, rfl⟩
    rw [← hm] at HF ⊢
    have hmn : (m : Int) = n := by omega
    clear hf hm
    go_enter Try.func66, Try.ntmps66
    go_wp2_with fail
    refine (HF.out _ (by omega) _).mono ?_
    rintro e w1 ⟨⟨v, rfl, n1⟩, hx1⟩
    obtain ⟨a1, c1, rfl⟩ := n1.shape
    have N1 := Lib.hid n1; have X1 := Lib.hid hx1
    clear n1 hx1
    go_wp2_with fail
    go_ret
    exact ⟨⟨_, rfl, N1.out⟩, X1.out⟩

theorem rep_int (n : Int) : rep (n : Rat) = ⟨decide (n < 0), lim n.natAbs, []⟩ := by
  unfold rep
  rw [Rat.num_intCast, Rat.den_intCast, if_pos rfl]

set_option maxHeartbeats 1000000 in
theorem fromR_any (n : Int) (w : World) (h0 : -9223372036854775808 ≤ n) (h1 : n ≤ 9223372036854775807) :
    Calls Try.prog 14 #[.int .i64 n] w fun e w' => (∃ v, e = .returned v ∧ NewR w w' v (rep (n : Rat))) ∧ Ext w w' := by
  rw [rep_int]
  have b0 := Blk.new w #[.bool false, .slice none 0 0, .slice none 0 0] 26
  have B0 := Lib.hid b0; have X0 := Lib.hid ((Ext.refl w).alloc (.cells #[.bool false, .slice none 0 0, .slice none 0 0] 26))
  clear b0
  go_enter Try.func14, Try.ntmps14
  go_wp2_with fail
  refine (naturalR_any n _ h0 h1).mono ?_
  rintro e w1 ⟨⟨v, rfl, n1⟩, hx1⟩
  obtain ⟨a1, c1, rfl⟩ := n1.shape
  have N1 := Lib.hid (n1.from X0.out); have X1 := Lib.hid (X0.out.trans hx1); have B1 := Lib.hid (B0.out.ext hx1)
  clear n1 hx1
  obtain ⟨L, hL⟩ : ∃ L, L = lim n.natAbs := ⟨_, rfl⟩
  rw [← hL] at N1 ⊢
  have HL := Lib.hid hL
  clear hL
  have c0 := B1.out.cell; have f0 := B1.out.free; have l0 := B1.out.lt
  go_wp2_with fail
  refine bodyPost_ret (v := .agg #[.bool (decide (n < 0)), .slice a1 L.length c1, .slice none 0 0]) (by simp only [results, Try.results14]; go_simp) rfl ⟨⟨_, rfl, _, _, rfl, ?_, NewV.nil _ _⟩, ?_⟩
  · rw [← HL.out]
    exact OwB.set3 N1.out B1.out (by decide) _ _ _
  · have := X1.out; (repeat (first | (with_reducible exact Ext.refl _) | (with_reducible assumption) | (with_reducible refine Ext.alloc ?_ _) | ((with_reducible refine Ext.setp ?_ ?_); focus (dsimp only; omega)) | (with_reducible refine Ext.drew ?_) | (with_reducible refine Ext.drewN ?_ _) | (with_reducible refine Ext.trans ?_ (by assumption))))

/-- What Of returns. -/
def ofR (p q : Int) : RR × Int := if q = 0 then (zR, 14) else (rep (mkRat (sg (decide (p < 0) != decide (q < 0)) p.natAbs) q.natAbs), 0)

/-- A number and an error. -/
def ResR (w w' : World) (e : Ending) (r : RR × Int) : Prop := ∃ v, e = .returned (.tuple #[v, .int .i64 r.2]) ∧ NewR w w' v r.1
theorem ResR.mk {w w' : World} {v : Value} {l : RR} {x : Int} {r : RR × Int} (h : NewR w w' v l) (e : r = (l, x)) : ResR w w' (.returned (.tuple #[v, .int .i64 x])) r := by subst e; exact ⟨v, rfl, h⟩
theorem NewR.shape {w w' : World} {v : Value} {r : RR} (h : NewR w w' v r) : ∃ a c a2 c2, v = .agg #[.bool r.neg, .slice a r.num.length c, .slice a2 r.den.length c2] := by
  obtain ⟨vn, vd, rfl, h1, h2⟩ := h
  obtain ⟨a, c, rfl⟩ := h1.shape
  obtain ⟨a2, c2, rfl⟩ := h2.shape
  exact ⟨_, _, _, _, rfl⟩
theorem RdR.shape {w : World} {v : Value} {r : RR} (h : RdR w v r) : ∃ a c a2 c2, v = .agg #[.bool r.neg, .slice a r.num.length c, .slice a2 r.den.length c2] := by
  obtain ⟨vn, vd, rfl, h1, h2⟩ := h
  obtain ⟨a, c, rfl⟩ := rdU_shape h1
  obtain ⟨a2, c2, rfl⟩ := rdU_shape h2
  exact ⟨_, _, _, _, rfl⟩
/-- .. behind three stores into a block of another kind. -/
theorem NewR.set3 {w A : World} {v : Value} {r : RR} (h : NewR w A v r) {bx : Nat} {c : Array Value} {t : TypeId} (hb : Blk A bx c t) (ht : t ≠ 46) (x y z : Value) :
    NewR w (((A.setCell ⟨bx, 0, none⟩ x).setCell ⟨bx, 1, none⟩ y).setCell ⟨bx, 2, none⟩ z) v r := by
  obtain ⟨vn, vd, rfl, h1, h2⟩ := h
  exact ⟨_, _, rfl, OwB.set3 h1 hb ht x y z, OwB.set3 h2 hb ht x y z⟩

theorem lim_small64 {n : Nat} (h : n < 18446744073709551616) : (lim n).length ≤ 2 := lim_len_le.2 (Nat.lt_of_lt_of_le h (by decide))

set_option maxHeartbeats 1000000 in
theorem ofnR_any (p q : Int) (w : World) (h0 : -9223372036854775808 ≤ p) (h1 : p ≤ 9223372036854775807) (h2 : -9223372036854775808 ≤ q) (h3 : q ≤ 9223372036854775807) :
    Calls Try.prog 15 #[.int .i64 p, .int .i64 q] w fun e w' => ResR w w' e (ofR p q) ∧ Ext w w' := by
  have b0 := Blk.new w #[.bool false, .slice none 0 0, .slice none 0 0] 26
  have B0 := Lib.hid b0; have X0 := Lib.hid ((Ext.refl w).alloc (.cells #[.bool false, .slice none 0 0, .slice none 0 0] 26))
  clear b0
  by_cases hq : q = 0
  · have e : ofR p q = (zR, 14) := by unfold ofR; rw [if_pos hq]
    have E := Lib.hid e
    subst hq
    clear e
    go_enter Try.func15, Try.ntmps15
    go_wp2_with fail
    exact bodyPost_ret (v := .tuple #[.agg #[.bool false, .slice none 0 0, .slice none 0 0], .int .i64 14]) (by simp only [results, Try.results15]; go_simp) rfl ⟨ResR.mk (NewR.zero _ _) E.out, by (repeat (first | (with_reducible exact Ext.refl _) | (with_reducible assumption) | (with_reducible refine Ext.alloc ?_ _) | ((with_reducible refine Ext.setp ?_ ?_); focus (dsimp only; omega)) | (with_reducible refine Ext.drew ?_) | (with_reducible refine Ext.drewN ?_ _) | (with_reducible refine Ext.trans ?_ (by assumption))))⟩
  · have e : ofR p q = (rep (mkRat (sg (decide (p < 0) != decide (q < 0)) p.natAbs) q.natAbs), 0) := by unfold ofR; rw [if_neg hq]
    have hq' : (q == 0) = false := by simpa using hq
    have hnp := fun W => naturalR_any p W h0 h1
    have hnq := fun W => naturalR_any q W h2 h3
    have sp := lim_small64 (n := p.natAbs) (by omega)
    have sq := lim_small64 (n := q.natAbs) (by omega)
    have hz : q.natAbs ≠ 0 := by omega
    obtain ⟨P, hP⟩ : ∃ P, P = p.natAbs := ⟨_, rfl⟩
    obtain ⟨Q, hQ⟩ : ∃ Q, Q = q.natAbs := ⟨_, rfl⟩
    rw [← hP] at e hnp sp
    rw [← hQ] at e hnq sq hz
    obtain ⟨RS, hRS⟩ : ∃ RS, RS = rep (mkRat (sg (decide (p < 0) != decide (q < 0)) P) Q) := ⟨_, rfl⟩
    rw [← hRS] at e
    have HRS := Lib.hid hRS; have E := Lib.hid e; have HNP := Lib.hid hnp; have HNQ := Lib.hid hnq
    clear hP hQ hRS e hnp hnq hq
    go_enter Try.func15, Try.ntmps15
    go_wp2_with fail
    refine (HNP.out _).mono ?_
    rintro e w1 ⟨⟨v, rfl, n1⟩, hx1⟩
    obtain ⟨a1, c1, rfl⟩ := n1.shape
    have N1 := Lib.hid n1.rd; have X1 := Lib.hid (X0.out.trans hx1); have B1 := Lib.hid (B0.out.ext hx1)
    clear n1 hx1
    go_wp2_with fail
    refine (HNQ.out _).mono ?_
    rintro e w2 ⟨⟨v, rfl, n2⟩, hx2⟩
    obtain ⟨a2, c2, rfl⟩ := n2.shape
    have N2 := Lib.hid n2.rd; have X2 := Lib.hid (X1.out.trans hx2); have B2 := Lib.hid (B1.out.ext hx2); have N1 := Lib.hid (N1.out.ext hx2)
    clear n2 hx2
    go_wp2_with fail
    have hlow := low_any (.agg #[.slice a1 (lim P).length c1, .slice a2 (lim Q).length c2, .bool (decide (p < 0) != decide (q < 0))]) (decide (p < 0) != decide (q < 0)) (lim P) (lim Q) w2 ⟨_, _, rfl, N1.out, N2.out⟩ (lim_lim _) (lim_lim _) (lim_noZ _) (lim_noZ _) (by omega) (by omega) (by rw [nv_lim]; exact hz)
    rw [nv_lim, nv_lim, ← HRS.out] at hlow
    refine hlow.mono ?_
    clear hlow
    rintro e w3 ⟨⟨v, rfl, n3⟩, hx3⟩
    obtain ⟨a3, c3, a4, c4, rfl⟩ := n3.shape
    have N3 := Lib.hid (n3.from X2.out); have X3 := Lib.hid (X2.out.trans hx3); have B3 := Lib.hid (B2.out.ext hx3)
    clear n3 hx3
    have c0 := B3.out.cell; have f0 := B3.out.free; have l0 := B3.out.lt
    go_wp2_with fail
    refine bodyPost_ret (v := .tuple #[.agg #[.bool RS.neg, .slice a3 RS.num.length c3, .slice a4 RS.den.length c4], .int .i64 0]) (by simp only [results, Try.results15]; go_simp) rfl ⟨ResR.mk (NewR.set3 N3.out B3.out (by decide) _ _ _) E.out, ?_⟩
    have := X3.out; (repeat (first | (with_reducible exact Ext.refl _) | (with_reducible assumption) | (with_reducible refine Ext.alloc ?_ _) | ((with_reducible refine Ext.setp ?_ ?_); focus (dsimp only; omega)) | (with_reducible refine Ext.drew ?_) | (with_reducible refine Ext.drewN ?_ _) | (with_reducible refine Ext.trans ?_ (by assumption))))

end Go.Proofs.Ytebdmmlniohhgaa
