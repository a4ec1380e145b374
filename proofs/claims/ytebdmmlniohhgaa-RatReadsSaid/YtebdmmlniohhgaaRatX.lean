/- Walks of EqualRat, equal and of of layer 6's laws. Conditions: api.Rats whose slices read as limbs. -/
import Derived.Test.YtebdmmlniohhgaaRatW
import Derived.Test.YtebdmmlniohhgaaRatN
namespace Go.Proofs.Ytebdmmlniohhgaa
set_option linter.unusedSimpArgs false
set_option linter.unusedVariables false
open Go.RowKit

theorem RdR.parts {w : World} {v : Value} {r : RR} (h : RdR w v r) : ∃ a c a2 c2, v = .agg #[.bool r.neg, .slice a r.num.length c, .slice a2 r.den.length c2] ∧ RdI .u32 w (.slice a r.num.length c) r.num ∧ RdI .u32 w (.slice a2 r.den.length c2) r.den := by
  obtain ⟨vn, vd, rfl, h1, h2⟩ := h
  obtain ⟨a, c, rfl⟩ := rdU_shape h1
  obtain ⟨a2, c2, rfl⟩ := rdU_shape h2
  exact ⟨a, c, a2, c2, rfl, h1, h2⟩

set_option maxHeartbeats 2000000 in
theorem equalRat_any (v1 v2 : Value) (r1 r2 : RR) (w : World) (h1 : RdR w v1 r1) (h2 : RdR w v2 r2) :
    Calls Try.prog 22 #[v1, v2] w fun e w' => e = .returned (.bool (decide (r1 = r2))) ∧ Ext w w' := by
  obtain ⟨a1, c1, a2, c2, rfl, n1, d1⟩ := h1.parts
  obtain ⟨a3, c3, a4, c4, rfl, n2, d2⟩ := h2.parts
  obtain ⟨s1, l1, l2⟩ := r1
  obtain ⟨s2, l3, l4⟩ := r2
  dsimp only at n1 d1 n2 d2 ⊢
  have N1 := Lib.hid n1; have D1 := Lib.hid d1; have N2 := Lib.hid n2; have D2 := Lib.hid d2
  clear n1 d1 n2 d2 h1 h2
  have b0 := (Blk.new w #[.bool s1, .slice a1 l1.length c1, .slice a2 l2.length c2] 26).alloc (.cells #[.bool s2, .slice a3 l3.length c3, .slice a4 l4.length c4] 26)
  have b1 := Blk.new (w.alloc (.cells #[.bool s1, .slice a1 l1.length c1, .slice a2 l2.length c2] 26)) #[.bool s2, .slice a3 l3.length c3, .slice a4 l4.length c4] 26
  rw [World.size_alloc] at b1
  have x0 : Ext w ((w.alloc (.cells #[.bool s1, .slice a1 l1.length c1, .slice a2 l2.length c2] 26)).alloc (.cells #[.bool s2, .slice a3 l3.length c3, .slice a4 l4.length c4] 26)) := ((Ext.refl w).alloc _).alloc _
  have B0 := Lib.hid b0; have B1 := Lib.hid b1; have X0 := Lib.hid x0
  clear b0 b1 x0
  by_cases hs : s1 = s2
  · subst hs
    have he1 := fun W h h' => equalNat_any (.slice a1 l1.length c1) (.slice a3 l3.length c3) l1 l3 W h h'
    have he2 := fun W h h' => equalNat_any (.slice a2 l2.length c2) (.slice a4 l4.length c4) l2 l4 W h h'
    by_cases hn : l1 = l3
    · rw [decide_eq_true hn] at he1
      have e : decide ((⟨s1, l1, l2⟩ : RR) = ⟨s1, l3, l4⟩) = decide (l2 = l4) := by
        rw [hn]; simp
      obtain ⟨r, hr⟩ : ∃ r, r = decide (l2 = l4) := ⟨_, rfl⟩
      rw [← hr] at he2 e
      rw [e]
      have HE1 := Lib.hid he1; have HE2 := Lib.hid he2
      clear he1 he2 hn e hr
      cases s1
      all_goals
        go_enter Try.func22, Try.ntmps22
        go_wp2_with fail
        refine (HE1.out _ (N1.out.ext X0.out) (N2.out.ext X0.out)).mono ?_
        rintro e w1 ⟨rfl, hx1⟩
        have P0 := Lib.hid (B0.out.ext hx1); have P1 := Lib.hid (B1.out.ext hx1); have X1 := Lib.hid (X0.out.trans hx1)
        clear hx1
        have k0 := P0.out.cell; have k1 := P1.out.cell; have m0 := P0.out.lt; have m1 := P1.out.lt
        go_wp2_with fail
        refine (HE2.out _ (D1.out.ext X1.out) (D2.out.ext X1.out)).mono ?_
        rintro e w2 ⟨rfl, hx2⟩
        have X2 := Lib.hid (X1.out.trans hx2)
        clear hx2 k0 k1 m0 m1
        go_wp2_with fail
        go_ret
        exact ⟨rfl, X2.out⟩
    · rw [decide_eq_false hn] at he1
      have e : decide ((⟨s1, l1, l2⟩ : RR) = ⟨s1, l3, l4⟩) = false := by
        rw [decide_eq_false_iff_not]; intro h; injection h with _ h2; exact hn h2
      rw [e]
      have HE1 := Lib.hid he1
      clear he1 he2 hn e
      cases s1
      all_goals
        go_enter Try.func22, Try.ntmps22
        go_wp2_with fail
        refine (HE1.out _ (N1.out.ext X0.out) (N2.out.ext X0.out)).mono ?_
        rintro e w1 ⟨rfl, hx1⟩
        have X1 := Lib.hid (X0.out.trans hx1)
        clear hx1
        go_wp2_with fail
        go_ret
        exact ⟨rfl, X1.out⟩
  · have e : decide ((⟨s1, l1, l2⟩ : RR) = ⟨s2, l3, l4⟩) = false := by
      rw [decide_eq_false_iff_not]; intro h; injection h with h2; exact hs h2
    rw [e]
    clear e
    cases s1 <;> cases s2
    all_goals first
      | exact absurd rfl hs
      | skip
    all_goals
      clear hs
      go_enter Try.func22, Try.ntmps22
      go_wp2_with fail
      go_ret
      exact ⟨rfl, X0.out⟩

/-- equal: two results without errors. -/
theorem equalR_any (v1 v2 : Value) (r1 r2 : RR) (c d : Int) (w : World) (h1 : RdR w v1 r1) (h2 : RdR w v2 r2) :
    Calls Try.prog 21 #[v1, .int .i64 c, v2, .int .i64 d] w fun e w' => e = .returned (.bool (decide (c = 0 ∧ d = 0 ∧ r1 = r2))) ∧ Ext w w' := by
  have he := fun W (x : Ext w W) => equalRat_any v1 v2 r1 r2 W (h1.ext x) (h2.ext x)
  obtain ⟨a1, c1, a2, c2, rfl⟩ := h1.shape
  obtain ⟨a3, c3, a4, c4, rfl⟩ := h2.shape
  obtain ⟨s1, l1, l2⟩ := r1
  obtain ⟨s2, l3, l4⟩ := r2
  dsimp only at he ⊢
  clear h1 h2
  by_cases hc : c = 0
  · by_cases hd : d = 0
    · have e : decide (c = 0 ∧ d = 0 ∧ (⟨s1, l1, l2⟩ : RR) = ⟨s2, l3, l4⟩) = decide ((⟨s1, l1, l2⟩ : RR) = ⟨s2, l3, l4⟩) := by simp [hc, hd]
      rw [e]
      obtain ⟨r, hr⟩ : ∃ r, r = decide ((⟨s1, l1, l2⟩ : RR) = ⟨s2, l3, l4⟩) := ⟨_, rfl⟩
      rw [← hr] at he ⊢
      have HE := Lib.hid he
      clear he hr e
      subst hc; subst hd
      go_enter Try.func21, Try.ntmps21
      go_wp2_with fail
      refine (HE.out _ (by (repeat (first | (with_reducible exact Ext.refl _) | (with_reducible assumption) | (with_reducible refine Ext.alloc ?_ _) | ((with_reducible refine Ext.setp ?_ ?_); focus (dsimp only; omega)) | (with_reducible refine Ext.drew ?_) | (with_reducible refine Ext.drewN ?_ _) | (with_reducible refine Ext.trans ?_ (by assumption)))))).mono ?_
      rintro e w1 ⟨rfl, hx1⟩
      have X1 := Lib.hid hx1
      clear hx1
      go_wp2_with fail
      go_ret
      exact ⟨rfl, by have := X1.out; exact Ext.trans (by (repeat (first | (with_reducible exact Ext.refl _) | (with_reducible assumption) | (with_reducible refine Ext.alloc ?_ _) | ((with_reducible refine Ext.setp ?_ ?_); focus (dsimp only; omega)) | (with_reducible refine Ext.drew ?_) | (with_reducible refine Ext.drewN ?_ _) | (with_reducible refine Ext.trans ?_ (by assumption))))) this⟩
    · have e : decide (c = 0 ∧ d = 0 ∧ (⟨s1, l1, l2⟩ : RR) = ⟨s2, l3, l4⟩) = false := by simp [hd]
      have hdb : (d == 0) = false := by simpa using hd
      rw [e]
      clear e he hd
      subst hc
      go_enter Try.func21, Try.ntmps21
      go_wp2_with fail
      go_ret
      exact ⟨rfl, by (repeat (first | (with_reducible exact Ext.refl _) | (with_reducible assumption) | (with_reducible refine Ext.alloc ?_ _) | ((with_reducible refine Ext.setp ?_ ?_); focus (dsimp only; omega)) | (with_reducible refine Ext.drew ?_) | (with_reducible refine Ext.drewN ?_ _) | (with_reducible refine Ext.trans ?_ (by assumption))))⟩
  · have e : decide (c = 0 ∧ d = 0 ∧ (⟨s1, l1, l2⟩ : RR) = ⟨s2, l3, l4⟩) = false := by simp [hc]
    have hcb : (c == 0) = false := by simpa using hc
    rw [e]
    clear e he hc
    go_enter Try.func21, Try.ntmps21
    go_wp2_with fail
    go_ret
    exact ⟨rfl, by (repeat (first | (with_reducible exact Ext.refl _) | (with_reducible assumption) | (with_reducible refine Ext.alloc ?_ _) | ((with_reducible refine Ext.setp ?_ ?_); focus (dsimp only; omega)) | (with_reducible refine Ext.drew ?_) | (with_reducible refine Ext.drewN ?_ _) | (with_reducible refine Ext.trans ?_ (by assumption))))⟩

/-- of. -/
def ofS (p q : Int) : RR := if (ofR p q).2 = 0 then (ofR p q).1 else ⟨true, [], []⟩

set_option maxHeartbeats 1000000 in
theorem ofS_any (p q : Int) (w : World) (h0 : -9223372036854775808 ≤ p) (h1 : p ≤ 9223372036854775807) (h2 : -9223372036854775808 ≤ q) (h3 : q ≤ 9223372036854775807) :
    Calls Try.prog 62 #[.int .i64 p, .int .i64 q] w fun e w' => (∃ v, e = .returned v ∧ NewR w w' v (ofS p q)) ∧ Ext w w' := by
  have hof := fun W => ofnR_any p q W h0 h1 h2 h3
  have b0 := Blk.new w #[.bool false, .slice none 0 0, .slice none 0 0] 26
  have B0 := Lib.hid b0; have X0 := Lib.hid ((Ext.refl w).alloc (.cells #[.bool false, .slice none 0 0, .slice none 0 0] 26))
  clear b0
  have e0 : ofS p q = if (ofR p q).2 = 0 then (ofR p q).1 else ⟨true, [], []⟩ := rfl
  obtain ⟨R, hR⟩ : ∃ R, R = ofR p q := ⟨_, rfl⟩
  rw [← hR] at hof e0
  obtain ⟨r, c⟩ := R
  dsimp only at e0
  have HOF := Lib.hid hof
  clear hof hR
  by_cases hc : c = 0
  · subst hc
    rw [if_pos rfl] at e0
    rw [e0]
    clear e0
    go_enter Try.func62, Try.ntmps62
    go_wp2_with fail
    refine (HOF.out _).mono ?_
    rintro e w1 ⟨⟨v, rfl, n1⟩, hx1⟩
    obtain ⟨a1, c1, a2, c2, rfl⟩ := n1.shape
    have n1 := n1.from X0.out
    have B1 := Lib.hid (B0.out.ext hx1); have X1 := Lib.hid (X0.out.trans hx1); have N1 := Lib.hid n1
    clear n1 hx1
    dsimp only at N1 ⊢
    obtain ⟨s1, l1, l2⟩ := r
    dsimp only at N1 ⊢
    have c0 := B1.out.cell; have f0 := B1.out.free; have l0 := B1.out.lt
    go_wp2_with fail
    refine bodyPost_ret (v := .agg #[.bool s1, .slice a1 l1.length c1, .slice a2 l2.length c2]) (by simp only [results, Try.results62]; go_simp) rfl ⟨⟨_, rfl, (NewR.set3 N1.out B1.out (by decide) _ _ _).ext ((Ext.refl _).alloc _)⟩, ?_⟩
    have := X1.out; (repeat (first | (with_reducible exact Ext.refl _) | (with_reducible assumption) | (with_reducible refine Ext.alloc ?_ _) | ((with_reducible refine Ext.setp ?_ ?_); focus (dsimp only; omega)) | (with_reducible refine Ext.drew ?_) | (with_reducible refine Ext.drewN ?_ _) | (with_reducible refine Ext.trans ?_ (by assumption))))
  · rw [if_neg hc] at e0
    rw [e0]
    clear e0
    have hcb : (c != 0) = true := by simpa using hc
    clear hc
    go_enter Try.func62, Try.ntmps62
    go_wp2_with fail
    refine (HOF.out _).mono ?_
    rintro e w1 ⟨⟨v, rfl, n1⟩, hx1⟩
    obtain ⟨a1, c1, a2, c2, rfl⟩ := n1.shape
    have B1 := Lib.hid (B0.out.ext hx1); have X1 := Lib.hid (X0.out.trans hx1)
    clear n1 hx1
    obtain ⟨s1, l1, l2⟩ := r
    dsimp only
    have c0 := B1.out.cell; have f0 := B1.out.free; have l0 := B1.out.lt
    go_wp2_with fail
    refine bodyPost_ret (v := .agg #[.bool true, .slice none 0 0, .slice none 0 0]) (by simp only [results, Try.results62]; go_simp) rfl ⟨⟨_, rfl, _, _, rfl, NewV.nil _ _, NewV.nil _ _⟩, ?_⟩
    have := X1.out; (repeat (first | (with_reducible exact Ext.refl _) | (with_reducible assumption) | (with_reducible refine Ext.alloc ?_ _) | ((with_reducible refine Ext.setp ?_ ?_); focus (dsimp only; omega)) | (with_reducible refine Ext.drew ?_) | (with_reducible refine Ext.drewN ?_ _) | (with_reducible refine Ext.trans ?_ (by assumption))))

end Go.Proofs.Ytebdmmlniohhgaa
