/- Walks of the closures of Sub and Div of layer 6. Conditions: values of bounded length. -/
import Derived.Test.YtebdmmlniohhgaaRatE
namespace Go.Proofs.Ytebdmmlniohhgaa
set_option linter.unusedSimpArgs false
set_option linter.unusedVariables false
open Go.RowKit

theorem rdI_set3 {A : World} {v : Value} {l : List Int} (h : RdI .u32 A v l) {bx : Nat} {c : Array Value} {t : TypeId} (hb : Blk A bx c t) (ht : ∀ x ∈ c, ∀ n, x ≠ .int .u32 n) (x y z : Value) (hx : ∀ n, x ≠ .int .u32 n) (hy : ∀ n, y ≠ .int .u32 n) :
    RdI .u32 (((A.setCell ⟨bx, 0, none⟩ x).setCell ⟨bx, 1, none⟩ y).setCell ⟨bx, 2, none⟩ z) v l := by
  have hc1 : ∀ u ∈ c.setIfInBounds 0 x, ∀ n, u ≠ .int .u32 n := fun u hu => by
    rcases Array.mem_or_eq_of_mem_setIfInBounds hu with hu | rfl
    · exact ht u hu
    · exact hx
  have hc2 : ∀ u ∈ (c.setIfInBounds 0 x).setIfInBounds 1 y, ∀ n, u ≠ .int .u32 n := fun u hu => by
    rcases Array.mem_or_eq_of_mem_setIfInBounds hu with hu | rfl
    · exact hc1 u hu
    · exact hy
  exact rdI_setBlk (rdI_setBlk (rdI_setBlk h hb ht 0 x) (hb.set 0 x) hc1 1 y) ((hb.set 0 x).set 1 y) hc2 2 z

set_option maxHeartbeats 1000000 in
theorem subR1_any (va vb : Value) (s1 s2 : Bool) (l1 l2 l3 l4 : List Int) (w : World) (ha : RdV w va s1 l1 l2) (hb : RdV w vb s2 l3 l4) (h1 : Lim l1) (h2 : Lim l2) (h3 : Lim l3) (h4 : Lim l4) (z1 : NoZ l1) (z2 : NoZ l2) (z3 : NoZ l3) (z4 : NoZ l4)
    (t1 : l1.length ≤ 200) (t2 : l2.length ≤ 200) (t3 : l3.length ≤ 200) (t4 : l4.length ≤ 200) :
    Calls Try.prog 75 #[va, vb] w fun e w' => (∃ v', e = .returned v' ∧ RdV w' v' (sumV (s1, nv l1, nv l2) (!s2, nv l3, nv l4)).1 (lim (sumV (s1, nv l1, nv l2) (!s2, nv l3, nv l4)).2.1) (lim (sumV (s1, nv l1, nv l2) (!s2, nv l3, nv l4)).2.2)) ∧ Ext w w' := by
  obtain ⟨vn, vd, rfl, hrn, hrd⟩ := ha
  obtain ⟨a1, c1, rfl⟩ := rdU_shape hrn
  obtain ⟨a2, c2, rfl⟩ := rdU_shape hrd
  obtain ⟨vn, vd, rfl, hrn2, hrd2⟩ := hb
  obtain ⟨a3, c3, rfl⟩ := rdU_shape hrn2
  obtain ⟨a4, c4, rfl⟩ := rdU_shape hrd2
  have hs := fun W (x : Ext w W) => sumR_any (.agg #[.slice a1 l1.length c1, .slice a2 l2.length c2, .bool s1]) (.agg #[.slice a3 l3.length c3, .slice a4 l4.length c4, .bool (!s2)]) s1 (!s2) l1 l2 l3 l4 W ⟨_, _, rfl, hrn.ext x, hrd.ext x⟩ ⟨_, _, rfl, hrn2.ext x, hrd2.ext x⟩ h1 h2 h3 h4 z1 z2 z3 z4 t1 t2 t3 t4
  obtain ⟨T, hT⟩ : ∃ T, T = sumV (s1, nv l1, nv l2) (!s2, nv l3, nv l4) := ⟨_, rfl⟩
  rw [← hT] at hs ⊢
  have HS := Lib.hid hs
  clear hs hT hrn hrd hrn2 hrd2 h1 h2 h3 h4 z1 z2 z3 z4
  have b2 := Blk.new ((w.alloc (.cells #[.slice a1 l1.length c1, .slice a2 l2.length c2, .bool s1] 76)).alloc (.cells #[.slice a3 l3.length c3, .slice a4 l4.length c4, .bool (!s2)] 76)) #[.slice none 0 0, .slice none 0 0, .bool false] 76
  rw [World.size_alloc, World.size_alloc] at b2
  have B2 := Lib.hid b2
  have X0 := Lib.hid (show Ext w (((w.alloc (.cells #[.slice a1 l1.length c1, .slice a2 l2.length c2, .bool s1] 76)).alloc (.cells #[.slice a3 l3.length c3, .slice a4 l4.length c4, .bool (!s2)] 76)).alloc (.cells #[.slice none 0 0, .slice none 0 0, .bool false] 76)) from (((Ext.refl w).alloc _).alloc _).alloc _)
  clear b2
  go_enter Try.func75, Try.ntmps75
  go_wp2_with fail
  refine (HS.out _ X0.out).mono ?_
  rintro e w1 ⟨⟨v1, rfl, vn, vd, rfl, hn, hd⟩, hx1⟩
  obtain ⟨a5, c5, rfl⟩ := rdU_shape hn
  obtain ⟨a6, c6, rfl⟩ := rdU_shape hd
  have B1 := Lib.hid (B2.out.ext hx1); have X1 := Lib.hid (X0.out.trans hx1); have HN := Lib.hid hn; have HD := Lib.hid hd
  clear hx1 hn hd
  have c0 := B1.out.cell; have f0 := B1.out.free; have l0 := B1.out.lt
  obtain ⟨T1, T2, T3⟩ := T
  dsimp only at *
  go_wp2_with fail
  refine bodyPost_ret (v := .agg #[.slice a5 (lim T2).length c5, .slice a6 (lim T3).length c6, .bool T1]) (by simp only [results, Try.results75]; go_simp) rfl ⟨⟨_, rfl, _, _, rfl, ?_, ?_⟩, by have := X1.out; (repeat (first | (with_reducible exact Ext.refl _) | (with_reducible assumption) | (with_reducible refine Ext.alloc ?_ _) | ((with_reducible refine Ext.setp ?_ ?_); focus (dsimp only; omega)) | (with_reducible refine Ext.drew ?_) | (with_reducible refine Ext.drewN ?_ _) | (with_reducible refine Ext.trans ?_ (by assumption))))⟩
  · exact rdI_set3 HN.out B1.out (by intro x hx n; simp at hx; rcases hx with rfl | rfl | rfl <;> simp) _ _ _ (by intro n; simp) (by intro n; simp)
  · exact rdI_set3 HD.out B1.out (by intro x hx n; simp at hx; rcases hx with rfl | rfl | rfl <;> simp) _ _ _ (by intro n; simp) (by intro n; simp)

set_option maxHeartbeats 1000000 in
theorem divR1_any (va vb : Value) (s1 s2 : Bool) (l1 l2 l3 l4 : List Int) (w : World) (ha : RdV w va s1 l1 l2) (hb : RdV w vb s2 l3 l4) (h1 : Lim l1) (h2 : Lim l2) (h3 : Lim l3) (h4 : Lim l4) (z1 : NoZ l1) (z2 : NoZ l2) (z3 : NoZ l3) (z4 : NoZ l4)
    (t1 : l1.length ≤ 200) (t2 : l2.length ≤ 200) (t3 : l3.length ≤ 200) (t4 : l4.length ≤ 200) :
    Calls Try.prog 78 #[va, vb] w fun e w' => (∃ v', e = .returned v' ∧ RdV w' v' (s1 != s2) (lim (nv l1 * nv l4)) (lim (nv l2 * nv l3))) ∧ Ext w w' := by
  obtain ⟨vn, vd, rfl, hrn, hrd⟩ := ha
  obtain ⟨a1, c1, rfl⟩ := rdU_shape hrn
  obtain ⟨a2, c2, rfl⟩ := rdU_shape hrd
  obtain ⟨vn, vd, rfl, hrn2, hrd2⟩ := hb
  obtain ⟨a3, c3, rfl⟩ := rdU_shape hrn2
  obtain ⟨a4, c4, rfl⟩ := rdU_shape hrd2
  have hs := fun W (x : Ext w W) => productR_any (.agg #[.slice a1 l1.length c1, .slice a2 l2.length c2, .bool s1]) (.agg #[.slice a4 l4.length c4, .slice a3 l3.length c3, .bool s2]) s1 s2 l1 l2 l4 l3 W ⟨_, _, rfl, hrn.ext x, hrd.ext x⟩ ⟨_, _, rfl, hrd2.ext x, hrn2.ext x⟩ h1 h2 h4 h3 z1 z2 z4 z3 t1 t2 t4 t3
  obtain ⟨T2, hT2⟩ : ∃ T2, T2 = nv l1 * nv l4 := ⟨_, rfl⟩
  obtain ⟨T3, hT3⟩ : ∃ T3, T3 = nv l2 * nv l3 := ⟨_, rfl⟩
  rw [← hT2, ← hT3] at hs ⊢
  have HS := Lib.hid hs
  clear hs hT2 hT3 hrn hrd hrn2 hrd2 h1 h2 h3 h4 z1 z2 z3 z4
  have b2 := Blk.new ((w.alloc (.cells #[.slice a1 l1.length c1, .slice a2 l2.length c2, .bool s1] 76)).alloc (.cells #[.slice a4 l4.length c4, .slice a3 l3.length c3, .bool s2] 76)) #[.slice none 0 0, .slice none 0 0, .bool false] 76
  rw [World.size_alloc, World.size_alloc] at b2
  have B2 := Lib.hid b2
  have X0 := Lib.hid (show Ext w (((w.alloc (.cells #[.slice a1 l1.length c1, .slice a2 l2.length c2, .bool s1] 76)).alloc (.cells #[.slice a4 l4.length c4, .slice a3 l3.length c3, .bool s2] 76)).alloc (.cells #[.slice none 0 0, .slice none 0 0, .bool false] 76)) from (((Ext.refl w).alloc _).alloc _).alloc _)
  clear b2
  go_enter Try.func78, Try.ntmps78
  go_wp2_with fail
  refine (HS.out _ X0.out).mono ?_
  rintro e w1 ⟨⟨v1, rfl, vn, vd, rfl, hn, hd⟩, hx1⟩
  obtain ⟨a5, c5, rfl⟩ := rdU_shape hn
  obtain ⟨a6, c6, rfl⟩ := rdU_shape hd
  have B1 := Lib.hid (B2.out.ext hx1); have X1 := Lib.hid (X0.out.trans hx1); have HN := Lib.hid hn; have HD := Lib.hid hd
  clear hx1 hn hd
  have c0 := B1.out.cell; have f0 := B1.out.free; have l0 := B1.out.lt
  go_wp2_with fail
  refine bodyPost_ret (v := .agg #[.slice a5 (lim T2).length c5, .slice a6 (lim T3).length c6, .bool (s1 != s2)]) (by simp only [results, Try.results78]; go_simp) rfl ⟨⟨_, rfl, _, _, rfl, ?_, ?_⟩, by have := X1.out; (repeat (first | (with_reducible exact Ext.refl _) | (with_reducible assumption) | (with_reducible refine Ext.alloc ?_ _) | ((with_reducible refine Ext.setp ?_ ?_); focus (dsimp only; omega)) | (with_reducible refine Ext.drew ?_) | (with_reducible refine Ext.drewN ?_ _) | (with_reducible refine Ext.trans ?_ (by assumption))))⟩
  · exact rdI_set3 HN.out B1.out (by intro x hx n; simp at hx; rcases hx with rfl | rfl | rfl <;> simp) _ _ _ (by intro n; simp) (by intro n; simp)
  · exact rdI_set3 HD.out B1.out (by intro x hx n; simp at hx; rcases hx with rfl | rfl | rfl <;> simp) _ _ _ (by intro n; simp) (by intro n; simp)

end Go.Proofs.Ytebdmmlniohhgaa
