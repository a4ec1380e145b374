/- Walks of product and sum of layer 6 (written by mksum.py). Conditions: values of bounded length. -/
import Derived.Test.YtebdmmlniohhgaaRatC
namespace Go.Proofs.Ytebdmmlniohhgaa
set_option linter.unusedSimpArgs false
set_option linter.unusedVariables false
open Go.RowKit

theorem mul_short {la lb : List Int} (ha : Lim la) (hb : Lim lb) (za : NoZ la) (zb : NoZ lb) (h : la.length + lb.length ≤ 512) : mulS la lb = (lim (nv la * nv lb), 0) := by
  refine mulS_ok (by omega) za (by omega) zb (pow_max (k := la.length + lb.length) ?_ h)
  rw [Nat.pow_add]
  exact Nat.mul_lt_mul'' (nv_lt ha) (nv_lt hb)

theorem times_at {w : World} {va vb : Value} {la lb : List Int} (ha : RdI .u32 w va la) (hb : RdI .u32 w vb lb) (hla : Lim la) (hlb : Lim lb) (za : NoZ la) (zb : NoZ lb) (h : la.length + lb.length ≤ 512) :
    ∀ W, Ext w W → Calls Try.prog 112 #[va, vb] W fun e w' => (∃ v, e = .returned v ∧ NewV W w' v (lim (nv la * nv lb))) ∧ Ext W w' := fun W x => by
  have := timesR_any va vb la lb W (ha.ext x) (hb.ext x) hla hlb
  rwa [mul_short hla hlb za zb h] at this

theorem len_mul {la lb : List Int} (ha : Lim la) (hb : Lim lb) : (lim (nv la * nv lb)).length ≤ la.length + lb.length := by
  refine lim_len_le.2 ?_
  rw [Nat.pow_add]
  exact Nat.mul_lt_mul'' (nv_lt ha) (nv_lt hb)

theorem add_short {P Q k : Nat} (hP : (lim P).length ≤ k) (hQ : (lim Q).length ≤ k) (hk : k + 1 ≤ 512) : addS (lim P) (lim Q) = (lim (P + Q), 0) := by
  rw [addS_ok (by omega) (lim_noZ _) (by omega) (lim_noZ _) (by rw [nv_lim, nv_lim]; exact pow_max (lt_max k k k (Nat.le_refl _) (Nat.le_refl _) (lim_len_le.1 hP) (lim_len_le.1 hQ)) hk), nv_lim, nv_lim]

theorem OwB.set3 {A : World} {B : Nat} {v : Value} {l : List Int} (h : OwB A B v l) {bx : Nat} {c : Array Value} {t : TypeId} (hb : Blk A bx c t) (ht : t ≠ 46) (x y z : Value) :
    OwB (((A.setCell ⟨bx, 0, none⟩ x).setCell ⟨bx, 1, none⟩ y).setCell ⟨bx, 2, none⟩ z) B v l :=
  ((h.setBlk hb ht 0 x).setBlk (hb.set 0 x) ht 1 y).setBlk ((hb.set 0 x).set 1 y) ht 2 z

set_option maxHeartbeats 2000000 in
theorem productR_any (va vb : Value) (s1 s2 : Bool) (l1 l2 l3 l4 : List Int) (w : World) (ha : RdV w va s1 l1 l2) (hb : RdV w vb s2 l3 l4) (h1 : Lim l1) (h2 : Lim l2) (h3 : Lim l3) (h4 : Lim l4) (z1 : NoZ l1) (z2 : NoZ l2) (z3 : NoZ l3) (z4 : NoZ l4)
    (t1 : l1.length ≤ 200) (t2 : l2.length ≤ 200) (t3 : l3.length ≤ 200) (t4 : l4.length ≤ 200) :
    Calls Try.prog 76 #[va, vb] w fun e w' => (∃ v', e = .returned v' ∧ RdV w' v' (s1 != s2) (lim (nv l1 * nv l3)) (lim (nv l2 * nv l4))) ∧ Ext w w' := by
  obtain ⟨vn, vd, rfl, hrn, hrd⟩ := ha
  obtain ⟨a1, c1, rfl⟩ := rdU_shape hrn
  obtain ⟨a2, c2, rfl⟩ := rdU_shape hrd
  obtain ⟨vn, vd, rfl, hrn2, hrd2⟩ := hb
  obtain ⟨a3, c3, rfl⟩ := rdU_shape hrn2
  obtain ⟨a4, c4, rfl⟩ := rdU_shape hrd2
  have HC1 := Lib.hid (times_at hrn hrn2 h1 h3 z1 z3 (by omega))
  have HC2 := Lib.hid (times_at hrd hrd2 h2 h4 z2 z4 (by omega))
  clear hrn hrd hrn2 hrd2 h1 h2 h3 h4 z1 z2 z3 z4
  obtain ⟨P, hP⟩ : ∃ P, P = nv l1 * nv l3 := ⟨_, rfl⟩
  obtain ⟨D, hD⟩ : ∃ D, D = nv l2 * nv l4 := ⟨_, rfl⟩
  rw [← hP] at HC1 ⊢
  rw [← hD] at HC2 ⊢
  clear hP hD
  have b0 := ((Blk.new w #[.slice a1 l1.length c1, .slice a2 l2.length c2, .bool s1] 76).alloc (.cells #[.slice a3 l3.length c3, .slice a4 l4.length c4, .bool s2] 76)).alloc (.cells #[.slice none 0 0, .slice none 0 0, .bool false] 76)
  have b1 := (Blk.new (w.alloc (.cells #[.slice a1 l1.length c1, .slice a2 l2.length c2, .bool s1] 76)) #[.slice a3 l3.length c3, .slice a4 l4.length c4, .bool s2] 76).alloc (.cells #[.slice none 0 0, .slice none 0 0, .bool false] 76)
  have b2 := Blk.new ((w.alloc (.cells #[.slice a1 l1.length c1, .slice a2 l2.length c2, .bool s1] 76)).alloc (.cells #[.slice a3 l3.length c3, .slice a4 l4.length c4, .bool s2] 76)) #[.slice none 0 0, .slice none 0 0, .bool false] 76
  rw [World.size_alloc] at b1
  rw [World.size_alloc, World.size_alloc] at b2
  have x0 : Ext w (((w.alloc (.cells #[.slice a1 l1.length c1, .slice a2 l2.length c2, .bool s1] 76)).alloc (.cells #[.slice a3 l3.length c3, .slice a4 l4.length c4, .bool s2] 76)).alloc (.cells #[.slice none 0 0, .slice none 0 0, .bool false] 76)) := (((Ext.refl w).alloc _).alloc _).alloc _
  have A0 := Lib.hid b0; have A1 := Lib.hid b1; have A2 := Lib.hid b2; have X0 := Lib.hid x0
  clear b0 b1 b2
  go_enter Try.func76, Try.ntmps76
  go_wp2_with fail
  have hmx : Try.prog.follows .mixedOrders = true := by kernel_rfl
  go_region_held3 (fun W => (Blk W w.heap.size #[.slice a1 l1.length c1, .slice a2 l2.length c2, .bool s1] 76 ∧ W.cell? ⟨w.heap.size, 0, none⟩ = some (.slice a1 l1.length c1) ∧ W.cell? ⟨w.heap.size, 1, none⟩ = some (.slice a2 l2.length c2) ∧ W.cell? ⟨w.heap.size, 2, none⟩ = some (.bool s1)) ∧ (Blk W (w.heap.size + 1) #[.slice a3 l3.length c3, .slice a4 l4.length c4, .bool s2] 76 ∧ W.cell? ⟨w.heap.size + 1, 0, none⟩ = some (.slice a3 l3.length c3) ∧ W.cell? ⟨w.heap.size + 1, 1, none⟩ = some (.slice a4 l4.length c4) ∧ W.cell? ⟨w.heap.size + 1, 2, none⟩ = some (.bool s2)))
    ((refine ⟨Blk.s3 ?_, Blk.s3 ?_⟩ <;> (repeat (first | exact A0.out | exact A1.out | exact k5 | exact k6 | exact k7 | exact k8 | refine Blk.setOther ?_ (by dsimp only; omega) _ | refine Blk.alloc ?_ _ | refine Blk.drew ?_))))
    (first | (go_at_call_of 112 (Value.slice a1 l1.length c1); refine (HC1.out _ (by (repeat (first | (with_reducible exact Ext.refl _) | (with_reducible assumption) | (with_reducible refine Ext.alloc ?_ _) | ((with_reducible refine Ext.setp ?_ ?_); focus (dsimp only; omega)) | (with_reducible refine Ext.drew ?_) | (with_reducible refine Ext.drewN ?_ _) | (with_reducible refine Ext.trans ?_ (by assumption)))))).mono ?_; rintro e W5 ⟨⟨v5, rfl, n5⟩, hx5⟩; obtain ⟨p5, q5, rfl⟩ := n5.shape; have N5 := Lib.hid n5; have z5 := hx5.size; have k5 := A0.out.ext (Ext.trans (by (repeat (first | (with_reducible exact Ext.refl _) | (with_reducible assumption) | (with_reducible refine Ext.alloc ?_ _) | ((with_reducible refine Ext.setp ?_ ?_); focus (dsimp only; omega)) | (with_reducible refine Ext.drew ?_) | (with_reducible refine Ext.drewN ?_ _) | (with_reducible refine Ext.trans ?_ (by assumption))))) hx5); have k6 := A1.out.ext (Ext.trans (by (repeat (first | (with_reducible exact Ext.refl _) | (with_reducible assumption) | (with_reducible refine Ext.alloc ?_ _) | ((with_reducible refine Ext.setp ?_ ?_); focus (dsimp only; omega)) | (with_reducible refine Ext.drew ?_) | (with_reducible refine Ext.drewN ?_ _) | (with_reducible refine Ext.trans ?_ (by assumption))))) hx5); have r5 := A2.out.ext (Ext.trans (by (repeat (first | (with_reducible exact Ext.refl _) | (with_reducible assumption) | (with_reducible refine Ext.alloc ?_ _) | ((with_reducible refine Ext.setp ?_ ?_); focus (dsimp only; omega)) | (with_reducible refine Ext.drew ?_) | (with_reducible refine Ext.drewN ?_ _) | (with_reducible refine Ext.trans ?_ (by assumption))))) hx5); have x5 := Ext.trans x0 (Ext.trans (by (repeat (first | (with_reducible exact Ext.refl _) | (with_reducible assumption) | (with_reducible refine Ext.alloc ?_ _) | ((with_reducible refine Ext.setp ?_ ?_); focus (dsimp only; omega)) | (with_reducible refine Ext.drew ?_) | (with_reducible refine Ext.drewN ?_ _) | (with_reducible refine Ext.trans ?_ (by assumption))))) hx5); clear n5) | (go_at_call_of 112 (Value.slice a2 l2.length c2); refine (HC2.out _ (by (repeat (first | (with_reducible exact Ext.refl _) | (with_reducible assumption) | (with_reducible refine Ext.alloc ?_ _) | ((with_reducible refine Ext.setp ?_ ?_); focus (dsimp only; omega)) | (with_reducible refine Ext.drew ?_) | (with_reducible refine Ext.drewN ?_ _) | (with_reducible refine Ext.trans ?_ (by assumption)))))).mono ?_; rintro e W7 ⟨⟨v7, rfl, n7⟩, hx7⟩; obtain ⟨p7, q7, rfl⟩ := n7.shape; have N7 := Lib.hid n7; have z7 := hx7.size; have k7 := k5.ext hx7; have k8 := k6.ext hx7; have r7 := (r5.ext hx7).cell; have fr7 := (r5.ext hx7).free; have lr7 := (r5.ext hx7).lt; have R7 := Lib.hid (r5.ext hx7); have M5 := Lib.hid (N5.out.ext hx7); have x7 := x5.trans hx7; clear n7 hx7))
  go_wp2_with fail
  refine bodyPost_ret (v := .agg #[.slice p5 (lim P).length q5, .slice p7 (lim D).length q7, .bool (s1 != s2)]) (by simp only [results, Try.results76]; go_simp; first | done | (cases s1 <;> cases s2 <;> rfl)) rfl ⟨⟨_, rfl, _, _, rfl, ?_, ?_⟩, ?_⟩
  · exact (OwB.set3 M5.out R7.out (by decide) _ _ _).rd
  · exact (OwB.set3 N7.out R7.out (by decide) _ _ _).rd
  · (repeat (first | (with_reducible exact Ext.refl _) | (with_reducible assumption) | (with_reducible refine Ext.alloc ?_ _) | ((with_reducible refine Ext.setp ?_ ?_); focus (dsimp only; omega)) | (with_reducible refine Ext.drew ?_) | (with_reducible refine Ext.drewN ?_ _) | (with_reducible refine Ext.trans ?_ (by assumption))))
set_option maxHeartbeats 4000000 in
theorem sumR_any (va vb : Value) (s1 s2 : Bool) (l1 l2 l3 l4 : List Int) (w : World) (ha : RdV w va s1 l1 l2) (hb : RdV w vb s2 l3 l4) (h1 : Lim l1) (h2 : Lim l2) (h3 : Lim l3) (h4 : Lim l4) (z1 : NoZ l1) (z2 : NoZ l2) (z3 : NoZ l3) (z4 : NoZ l4)
    (t1 : l1.length ≤ 200) (t2 : l2.length ≤ 200) (t3 : l3.length ≤ 200) (t4 : l4.length ≤ 200) :
    Calls Try.prog 74 #[va, vb] w fun e w' => (∃ v', e = .returned v' ∧ RdV w' v' (sumV (s1, nv l1, nv l2) (s2, nv l3, nv l4)).1 (lim (sumV (s1, nv l1, nv l2) (s2, nv l3, nv l4)).2.1) (lim (sumV (s1, nv l1, nv l2) (s2, nv l3, nv l4)).2.2)) ∧ Ext w w' := by
  obtain ⟨vn, vd, rfl, hrn, hrd⟩ := ha
  obtain ⟨a1, c1, rfl⟩ := rdU_shape hrn
  obtain ⟨a2, c2, rfl⟩ := rdU_shape hrd
  obtain ⟨vn, vd, rfl, hrn2, hrd2⟩ := hb
  obtain ⟨a3, c3, rfl⟩ := rdU_shape hrn2
  obtain ⟨a4, c4, rfl⟩ := rdU_shape hrd2
  have HC1 := Lib.hid (times_at hrn hrd2 h1 h4 z1 z4 (by omega))
  have HC2 := Lib.hid (times_at hrn2 hrd h3 h2 z3 z2 (by omega))
  have HC3 := Lib.hid (times_at hrd hrd2 h2 h4 z2 z4 (by omega))
  have k14 := len_mul h1 h4; have k32 := len_mul h3 h2
  clear hrn hrd hrn2 hrd2 h1 h2 h3 h4 z1 z2 z3 z4
  obtain ⟨T, hT⟩ : ∃ T, T = sumV (s1, nv l1, nv l2) (s2, nv l3, nv l4) := ⟨_, rfl⟩
  rw [← hT]
  unfold sumV at hT
  dsimp only at hT
  obtain ⟨P, hP⟩ : ∃ P, P = nv l1 * nv l4 := ⟨_, rfl⟩
  obtain ⟨Q, hQ⟩ : ∃ Q, Q = nv l3 * nv l2 := ⟨_, rfl⟩
  obtain ⟨D, hD⟩ : ∃ D, D = nv l2 * nv l4 := ⟨_, rfl⟩
  rw [← hP] at HC1 hT k14
  rw [← hQ] at HC2 hT k32
  rw [← hD] at HC3 hT
  have HT := Lib.hid hT
  clear hP hQ hD hT
  have sP : (lim P).length ≤ 400 := by omega
  have sQ : (lim Q).length ≤ 400 := by omega
  have hpl := fun W va vb h1 h2 => plusR_any va vb (lim P) (lim Q) W h1 h2 (lim_lim _) (lim_lim _)
  rw [add_short (k := 400) sP sQ (by omega)] at hpl
  have hmi := fun W va vb h1 h2 => minusR_any va vb (lim P) (lim Q) W h1 h2 (lim_lim _) (lim_lim _) (lim_noZ _) (lim_noZ _) (by omega) (by omega)
  rw [nv_lim, nv_lim] at hmi
  have HPL := Lib.hid hpl; have HMI := Lib.hid hmi
  clear hpl hmi k14 k32
  have b0 := ((Blk.new w #[.slice a1 l1.length c1, .slice a2 l2.length c2, .bool s1] 76).alloc (.cells #[.slice a3 l3.length c3, .slice a4 l4.length c4, .bool s2] 76)).alloc (.cells #[.slice none 0 0, .slice none 0 0, .bool false] 76)
  have b1 := (Blk.new (w.alloc (.cells #[.slice a1 l1.length c1, .slice a2 l2.length c2, .bool s1] 76)) #[.slice a3 l3.length c3, .slice a4 l4.length c4, .bool s2] 76).alloc (.cells #[.slice none 0 0, .slice none 0 0, .bool false] 76)
  have b2 := Blk.new ((w.alloc (.cells #[.slice a1 l1.length c1, .slice a2 l2.length c2, .bool s1] 76)).alloc (.cells #[.slice a3 l3.length c3, .slice a4 l4.length c4, .bool s2] 76)) #[.slice none 0 0, .slice none 0 0, .bool false] 76
  rw [World.size_alloc] at b1
  rw [World.size_alloc, World.size_alloc] at b2
  have x0 : Ext w (((w.alloc (.cells #[.slice a1 l1.length c1, .slice a2 l2.length c2, .bool s1] 76)).alloc (.cells #[.slice a3 l3.length c3, .slice a4 l4.length c4, .bool s2] 76)).alloc (.cells #[.slice none 0 0, .slice none 0 0, .bool false] 76)) := (((Ext.refl w).alloc _).alloc _).alloc _
  have A0 := Lib.hid b0; have A1 := Lib.hid b1; have A2 := Lib.hid b2; have X0 := Lib.hid x0
  clear b0 b1 b2
  go_enter Try.func74, Try.ntmps74
  go_wp2_with fail
  have hmx : Try.prog.follows .mixedOrders = true := by kernel_rfl
  go_region_held3 (fun W => (Blk W w.heap.size #[.slice a1 l1.length c1, .slice a2 l2.length c2, .bool s1] 76 ∧ W.cell? ⟨w.heap.size, 0, none⟩ = some (.slice a1 l1.length c1) ∧ W.cell? ⟨w.heap.size, 1, none⟩ = some (.slice a2 l2.length c2) ∧ W.cell? ⟨w.heap.size, 2, none⟩ = some (.bool s1)) ∧ (Blk W (w.heap.size + 1) #[.slice a3 l3.length c3, .slice a4 l4.length c4, .bool s2] 76 ∧ W.cell? ⟨w.heap.size + 1, 0, none⟩ = some (.slice a3 l3.length c3) ∧ W.cell? ⟨w.heap.size + 1, 1, none⟩ = some (.slice a4 l4.length c4) ∧ W.cell? ⟨w.heap.size + 1, 2, none⟩ = some (.bool s2)))
    ((refine ⟨Blk.s3 ?_, Blk.s3 ?_⟩ <;> (repeat (first | exact A0.out | exact A1.out | exact k5 | exact k6 | exact k7 | exact k8 | refine Blk.setOther ?_ (by dsimp only; omega) _ | refine Blk.alloc ?_ _ | refine Blk.drew ?_))))
    (first | (go_at_call_of 112 (Value.slice a1 l1.length c1); refine (HC1.out _ (by (repeat (first | (with_reducible exact Ext.refl _) | (with_reducible assumption) | (with_reducible refine Ext.alloc ?_ _) | ((with_reducible refine Ext.setp ?_ ?_); focus (dsimp only; omega)) | (with_reducible refine Ext.drew ?_) | (with_reducible refine Ext.drewN ?_ _) | (with_reducible refine Ext.trans ?_ (by assumption)))))).mono ?_; rintro e W5 ⟨⟨v5, rfl, n5⟩, hx5⟩; obtain ⟨p5, q5, rfl⟩ := n5.shape; have N5 := Lib.hid n5; have z5 := hx5.size; have k5 := A0.out.ext (Ext.trans (by (repeat (first | (with_reducible exact Ext.refl _) | (with_reducible assumption) | (with_reducible refine Ext.alloc ?_ _) | ((with_reducible refine Ext.setp ?_ ?_); focus (dsimp only; omega)) | (with_reducible refine Ext.drew ?_) | (with_reducible refine Ext.drewN ?_ _) | (with_reducible refine Ext.trans ?_ (by assumption))))) hx5); have k6 := A1.out.ext (Ext.trans (by (repeat (first | (with_reducible exact Ext.refl _) | (with_reducible assumption) | (with_reducible refine Ext.alloc ?_ _) | ((with_reducible refine Ext.setp ?_ ?_); focus (dsimp only; omega)) | (with_reducible refine Ext.drew ?_) | (with_reducible refine Ext.drewN ?_ _) | (with_reducible refine Ext.trans ?_ (by assumption))))) hx5); have r5 := A2.out.ext (Ext.trans (by (repeat (first | (with_reducible exact Ext.refl _) | (with_reducible assumption) | (with_reducible refine Ext.alloc ?_ _) | ((with_reducible refine Ext.setp ?_ ?_); focus (dsimp only; omega)) | (with_reducible refine Ext.drew ?_) | (with_reducible refine Ext.drewN ?_ _) | (with_reducible refine Ext.trans ?_ (by assumption))))) hx5); have x5 := Ext.trans x0 (Ext.trans (by (repeat (first | (with_reducible exact Ext.refl _) | (with_reducible assumption) | (with_reducible refine Ext.alloc ?_ _) | ((with_reducible refine Ext.setp ?_ ?_); focus (dsimp only; omega)) | (with_reducible refine Ext.drew ?_) | (with_reducible refine Ext.drewN ?_ _) | (with_reducible refine Ext.trans ?_ (by assumption))))) hx5); clear n5) | (go_at_call_of 112 (Value.slice a3 l3.length c3); refine (HC2.out _ (by (repeat (first | (with_reducible exact Ext.refl _) | (with_reducible assumption) | (with_reducible refine Ext.alloc ?_ _) | ((with_reducible refine Ext.setp ?_ ?_); focus (dsimp only; omega)) | (with_reducible refine Ext.drew ?_) | (with_reducible refine Ext.drewN ?_ _) | (with_reducible refine Ext.trans ?_ (by assumption)))))).mono ?_; rintro e W7 ⟨⟨v7, rfl, n7⟩, hx7⟩; obtain ⟨p7, q7, rfl⟩ := n7.shape; have N7 := Lib.hid n7; have z7 := hx7.size; have k7 := k5.ext hx7; have k8 := k6.ext hx7; have r7 := r5.ext hx7; have M5 := Lib.hid ((N5.out.ext hx7).from (Ext.trans x0 (by (repeat (first | (with_reducible exact Ext.refl _) | (with_reducible assumption) | (with_reducible refine Ext.alloc ?_ _) | ((with_reducible refine Ext.setp ?_ ?_); focus (dsimp only; omega)) | (with_reducible refine Ext.drew ?_) | (with_reducible refine Ext.drewN ?_ _) | (with_reducible refine Ext.trans ?_ (by assumption))))))); have M7 := Lib.hid (N7.out.from x5); have x7 := x5.trans hx7; clear n7 hx7))
  have K7 := Lib.hid k7; have K8 := Lib.hid k8; have R7 := Lib.hid r7; have X7 := Lib.hid x7
  clear k5 k6 r5 x5 N5 N7 hx5 z5 z7 k7 k8 r7 A0 A1 A2 X0 x0
  have lt7 := R7.out.lt
  go_wp2_with fail
  have x7 := X7.out
  go_region_held3 (fun W => (Blk W w.heap.size #[.slice a1 l1.length c1, .slice a2 l2.length c2, .bool s1] 76 ∧ W.cell? ⟨w.heap.size, 0, none⟩ = some (.slice a1 l1.length c1) ∧ W.cell? ⟨w.heap.size, 1, none⟩ = some (.slice a2 l2.length c2) ∧ W.cell? ⟨w.heap.size, 2, none⟩ = some (.bool s1)) ∧ (Blk W (w.heap.size + 1) #[.slice a3 l3.length c3, .slice a4 l4.length c4, .bool s2] 76 ∧ W.cell? ⟨w.heap.size + 1, 0, none⟩ = some (.slice a3 l3.length c3) ∧ W.cell? ⟨w.heap.size + 1, 1, none⟩ = some (.slice a4 l4.length c4) ∧ W.cell? ⟨w.heap.size + 1, 2, none⟩ = some (.bool s2)))
    ((refine ⟨Blk.s3 ?_, Blk.s3 ?_⟩ <;> (repeat (first | exact K7.out | exact K8.out | exact k5 | exact k6 | refine Blk.setOther ?_ (by dsimp only; omega) _ | refine Blk.alloc ?_ _ | refine Blk.drew ?_))))
    (first | (go_at_call_of 112 (Value.slice a2 l2.length c2); refine (HC3.out _ (by (repeat (first | (with_reducible exact Ext.refl _) | (with_reducible assumption) | (with_reducible refine Ext.alloc ?_ _) | ((with_reducible refine Ext.setp ?_ ?_); focus (dsimp only; omega)) | (with_reducible refine Ext.drew ?_) | (with_reducible refine Ext.drewN ?_ _) | (with_reducible refine Ext.trans ?_ (by assumption)))))).mono ?_; rintro e W8 ⟨⟨v8, rfl, n8⟩, hx8⟩; obtain ⟨p8, q8, rfl⟩ := n8.shape; have N8 := Lib.hid n8; have z8 := hx8.size; have e8 : Ext W7 W8 := Ext.trans (by (repeat (first | (with_reducible exact Ext.refl _) | (with_reducible assumption) | (with_reducible refine Ext.alloc ?_ _) | ((with_reducible refine Ext.setp ?_ ?_); focus (dsimp only; omega)) | (with_reducible refine Ext.drew ?_) | (with_reducible refine Ext.drewN ?_ _) | (with_reducible refine Ext.trans ?_ (by assumption))))) hx8; have k5 := K7.out.ext e8; have k6 := K8.out.ext e8; have qc := fun h => (hx8.block_at (b := W7.heap.size) h).1; have qf := fun h => (hx8.block_at (b := W7.heap.size) h).2; (try simp only [World.size_alloc, World.size_drew] at qc qf z8); clear n8))
  · have B9 : Hid (Blk (W8.alloc (.cells #[.slice none 0 0, .slice p8 (lim D).length q8, .bool s1] 76)) W8.heap.size #[.slice none 0 0, .slice p8 (lim D).length q8, .bool s1] 76) := Lib.hid (Blk.new _ _ _)
    have y9 : Ext W8 (W8.alloc (.cells #[.slice none 0 0, .slice p8 (lim D).length q8, .bool s1] 76)) := (Ext.refl W8).alloc _
    have D9 := Lib.hid ((N8.out.from (Ext.trans x7 (by (repeat (first | (with_reducible exact Ext.refl _) | (with_reducible assumption) | (with_reducible refine Ext.alloc ?_ _) | ((with_reducible refine Ext.setp ?_ ?_); focus (dsimp only; omega)) | (with_reducible refine Ext.drew ?_) | (with_reducible refine Ext.drewN ?_ _) | (with_reducible refine Ext.trans ?_ (by assumption))))))).ext y9)
    have lt8 := e8.size
    have hbx0 : w.heap.size + 1 + 1 < W8.heap.size := by omega
    have M59 := Lib.hid ((M5.out.ext e8).ext y9)
    have M79 := Lib.hid ((M7.out.ext e8).ext y9)
    have K9 := Lib.hid ((K7.out.ext e8).ext y9)
    have J9 := Lib.hid ((K8.out.ext e8).ext y9)
    have R9 := Lib.hid ((R7.out.ext e8).ext y9)
    have X9 := Lib.hid ((x7.trans e8).trans y9)
    clear hx8 qc qf N8 k5 k6 y9 M5 M7 K7 K8 R7
    generalize hbx : W8.heap.size = bx at *
    generalize W8.alloc (.cells #[.slice none 0 0, .slice p8 (lim D).length q8, .bool s1] 76) = w9 at *
    clear hbx

    have b9 := B9.out.cell; have fb9 := B9.out.free; have lb9 := B9.out.lt; have r9 := R9.out.cell; have fr9 := R9.out.free; have lr9 := R9.out.lt; have k9 := K9.out.cell; have lk9 := K9.out.lt; have j9 := J9.out.cell; have lj9 := J9.out.lt
    have hs9 : s1 = s2 ∨ ¬ s1 = s2 := Classical.em _
    rcases hs9 with hs | hs
    · have hsb : (s1 == s2) = true := by simpa using hs
      have HS := Lib.hid hs
      clear hs
      go_wp2_with fail
      refine (HPL.out w9 _ _ M59.out.rd M79.out.rd).mono ?_
      rintro e w10 ⟨⟨v10, rfl, n10⟩, hx10⟩
      obtain ⟨p10, q10, rfl⟩ := n10.shape
      have N10 := Lib.hid (n10.from X9.out); have B10 := Lib.hid (B9.out.ext hx10); have R10 := Lib.hid (R9.out.ext hx10); have D10 := Lib.hid (D9.out.ext hx10); have X10 := Lib.hid (X9.out.trans hx10)
      clear hx10 n10 b9 fb9 r9 fr9 k9 j9
      have b10 := B10.out.cell; have fb10 := B10.out.free; have lb10 := B10.out.lt; have r10 := R10.out.cell; have fr10 := R10.out.free; have lr10 := R10.out.lt
      go_wp2_with fail
      refine bodyPost_ret (v := .agg #[.slice p10 (lim (P + Q)).length q10, .slice p8 (lim D).length q8, .bool s1]) (by simp only [results, Try.results74]; go_simp) rfl ⟨⟨_, rfl, .slice p10 (lim (P + Q)).length q10, .slice p8 (lim D).length q8, ?_, ?_, ?_⟩, ?_⟩
      · rw [HT.out, if_pos HS.out]
      · rw [HT.out, if_pos HS.out]
        exact (OwB.set3 (OwB.setBlk N10.out B10.out (by decide) 0 _) (R10.out.setOther (by dsimp only; omega) _) (by decide) _ _ _).rd
      · rw [HT.out, if_pos HS.out]
        exact (OwB.set3 (OwB.setBlk D10.out B10.out (by decide) 0 _) (R10.out.setOther (by dsimp only; omega) _) (by decide) _ _ _).rd
      · have := X10.out; (repeat (first | (with_reducible exact Ext.refl _) | (with_reducible assumption) | (with_reducible refine Ext.alloc ?_ _) | ((with_reducible refine Ext.setp ?_ ?_); focus (dsimp only; omega)) | (with_reducible refine Ext.drew ?_) | (with_reducible refine Ext.drewN ?_ _) | (with_reducible refine Ext.trans ?_ (by assumption))))
    · have hsb : (s1 == s2) = false := by simpa using hs
      have HS := Lib.hid hs
      clear hs
      go_wp2_with fail
      refine (HMI.out w9 _ _ M59.out.rd M79.out.rd).mono ?_
      rintro e w10 ⟨⟨v10, rfl, n10⟩, hx10⟩
      obtain ⟨U, hU⟩ : ∃ U, U = if P < Q then Q - P else P - Q := ⟨_, rfl⟩
      rw [← hU] at n10
      obtain ⟨p10, q10, rfl⟩ := n10.shape
      have HUU := Lib.hid hU
      clear hU
      have N10 := Lib.hid (n10.from X9.out); have B10 := Lib.hid (B9.out.ext hx10); have R10 := Lib.hid (R9.out.ext hx10); have D10 := Lib.hid (D9.out.ext hx10); have X10 := Lib.hid (X9.out.trans hx10); have J10 := Lib.hid (J9.out.ext hx10)
      clear hx10 n10 b9 fb9 r9 fr9 k9 j9
      have b10 := B10.out.cell; have fb10 := B10.out.free; have lb10 := B10.out.lt; have r10 := R10.out.cell; have fr10 := R10.out.free; have lr10 := R10.out.lt; have j10 := J10.out.cell; have lj10 := J10.out.lt
      by_cases hlt : P < Q
      · rw [decide_eq_true hlt]
        have HLT := Lib.hid hlt
        clear hlt
        go_wp2_with fail
        refine bodyPost_ret (v := .agg #[.slice p10 (lim U).length q10, .slice p8 (lim D).length q8, .bool s2]) (by simp only [results, Try.results74]; go_simp) rfl ⟨⟨_, rfl, .slice p10 (lim U).length q10, .slice p8 (lim D).length q8, ?_, ?_, ?_⟩, ?_⟩
        · rw [HT.out, if_neg HS.out, if_pos HLT.out]
        · rw [HT.out, if_neg HS.out, if_pos HLT.out, show Q - P = U by rw [HUU.out, if_pos HLT.out]]
          exact (OwB.set3 (OwB.setBlk (OwB.setBlk N10.out B10.out (by decide) 0 _) (B10.out.set 0 _) (by decide) 2 _) ((R10.out.setOther (by dsimp only; omega) _).setOther (by dsimp only; omega) _) (by decide) _ _ _).rd
        · rw [HT.out, if_neg HS.out, if_pos HLT.out]
          exact (OwB.set3 (OwB.setBlk (OwB.setBlk D10.out B10.out (by decide) 0 _) (B10.out.set 0 _) (by decide) 2 _) ((R10.out.setOther (by dsimp only; omega) _).setOther (by dsimp only; omega) _) (by decide) _ _ _).rd
        · have := X10.out; (repeat (first | (with_reducible exact Ext.refl _) | (with_reducible assumption) | (with_reducible refine Ext.alloc ?_ _) | ((with_reducible refine Ext.setp ?_ ?_); focus (dsimp only; omega)) | (with_reducible refine Ext.drew ?_) | (with_reducible refine Ext.drewN ?_ _) | (with_reducible refine Ext.trans ?_ (by assumption))))
      · rw [decide_eq_false hlt]
        have HLT := Lib.hid hlt
        clear hlt
        go_wp2_with fail
        refine bodyPost_ret (v := .agg #[.slice p10 (lim U).length q10, .slice p8 (lim D).length q8, .bool s1]) (by simp only [results, Try.results74]; go_simp) rfl ⟨⟨_, rfl, .slice p10 (lim U).length q10, .slice p8 (lim D).length q8, ?_, ?_, ?_⟩, ?_⟩
        · rw [HT.out, if_neg HS.out, if_neg HLT.out]
        · rw [HT.out, if_neg HS.out, if_neg HLT.out, show P - Q = U by rw [HUU.out, if_neg HLT.out]]
          exact (OwB.set3 (OwB.setBlk N10.out B10.out (by decide) 0 _) (R10.out.setOther (by dsimp only; omega) _) (by decide) _ _ _).rd
        · rw [HT.out, if_neg HS.out, if_neg HLT.out]
          exact (OwB.set3 (OwB.setBlk D10.out B10.out (by decide) 0 _) (R10.out.setOther (by dsimp only; omega) _) (by decide) _ _ _).rd
        · have := X10.out; (repeat (first | (with_reducible exact Ext.refl _) | (with_reducible assumption) | (with_reducible refine Ext.alloc ?_ _) | ((with_reducible refine Ext.setp ?_ ?_); focus (dsimp only; omega)) | (with_reducible refine Ext.drew ?_) | (with_reducible refine Ext.drewN ?_ _) | (with_reducible refine Ext.trans ?_ (by assumption))))
  · have h1 := ((Blk.new W7 #[.slice none 0 0, .slice none 0 0, .bool false] 76).drew).ext hx8
    have B9 : Hid (Blk (((W8.setCell ⟨W7.heap.size, 0, none⟩ (.slice none 0 0)).setCell ⟨W7.heap.size, 1, none⟩ (.slice p8 (lim D).length q8)).setCell ⟨W7.heap.size, 2, none⟩ (.bool s1)) W7.heap.size #[.slice none 0 0, .slice p8 (lim D).length q8, .bool s1] 76) := by
      have h2 := ((h1.set 0 (.slice none 0 0)).set 1 (.slice p8 (lim D).length q8)).set 2 (.bool s1)
      exact Lib.hid (by simpa using h2)
    have D9 := Lib.hid (OwB.set3 (N8.out.from (w0 := w) (Ext.trans x7 (by (repeat (first | (with_reducible exact Ext.refl _) | (with_reducible assumption) | (with_reducible refine Ext.alloc ?_ _) | ((with_reducible refine Ext.setp ?_ ?_); focus (dsimp only; omega)) | (with_reducible refine Ext.drew ?_) | (with_reducible refine Ext.drewN ?_ _) | (with_reducible refine Ext.trans ?_ (by assumption))))))) h1 (by decide) (.slice none 0 0) (.slice p8 (lim D).length q8) (.bool s1))
    have hbx0 : w.heap.size + 1 + 1 < W7.heap.size := lt7
    have M59 := Lib.hid (OwB.set3 (M5.out.ext e8) h1 (by decide) (.slice none 0 0) (.slice p8 (lim D).length q8) (.bool s1))
    have M79 := Lib.hid (OwB.set3 (M7.out.ext e8) h1 (by decide) (.slice none 0 0) (.slice p8 (lim D).length q8) (.bool s1))
    have K9 := Lib.hid ((((K7.out.ext e8).setOther (a := ⟨W7.heap.size, 0, none⟩) (by dsimp only; omega) (.slice none 0 0)).setOther (a := ⟨W7.heap.size, 1, none⟩) (by dsimp only; omega) (.slice p8 (lim D).length q8)).setOther (a := ⟨W7.heap.size, 2, none⟩) (by dsimp only; omega) (.bool s1))
    have J9 := Lib.hid ((((K8.out.ext e8).setOther (a := ⟨W7.heap.size, 0, none⟩) (by dsimp only; omega) (.slice none 0 0)).setOther (a := ⟨W7.heap.size, 1, none⟩) (by dsimp only; omega) (.slice p8 (lim D).length q8)).setOther (a := ⟨W7.heap.size, 2, none⟩) (by dsimp only; omega) (.bool s1))
    have R9 := Lib.hid ((((R7.out.ext e8).setOther (a := ⟨W7.heap.size, 0, none⟩) (by dsimp only; omega) (.slice none 0 0)).setOther (a := ⟨W7.heap.size, 1, none⟩) (by dsimp only; omega) (.slice p8 (lim D).length q8)).setOther (a := ⟨W7.heap.size, 2, none⟩) (by dsimp only; omega) (.bool s1))
    have X9 := Lib.hid ((((x7.trans e8).set (p := ⟨W7.heap.size, 0, none⟩) (by dsimp only; omega) (.slice none 0 0)).set (p := ⟨W7.heap.size, 1, none⟩) (by dsimp only; omega) (.slice p8 (lim D).length q8)).set (p := ⟨W7.heap.size, 2, none⟩) (by dsimp only; omega) (.bool s1))
    clear hx8 qc qf N8 k5 k6 h1 M5 M7 K7 K8 R7
    generalize ((W8.setCell ⟨W7.heap.size, 0, none⟩ (.slice none 0 0)).setCell ⟨W7.heap.size, 1, none⟩ (.slice p8 (lim D).length q8)).setCell ⟨W7.heap.size, 2, none⟩ (.bool s1) = w9 at *
    generalize hbx : W7.heap.size = bx at *
    clear hbx

    have b9 := B9.out.cell; have fb9 := B9.out.free; have lb9 := B9.out.lt; have r9 := R9.out.cell; have fr9 := R9.out.free; have lr9 := R9.out.lt; have k9 := K9.out.cell; have lk9 := K9.out.lt; have j9 := J9.out.cell; have lj9 := J9.out.lt
    have hs9 : s1 = s2 ∨ ¬ s1 = s2 := Classical.em _
    rcases hs9 with hs | hs
    · have hsb : (s1 == s2) = true := by simpa using hs
      have HS := Lib.hid hs
      clear hs
      go_wp2_with fail
      refine (HPL.out w9 _ _ M59.out.rd M79.out.rd).mono ?_
      rintro e w10 ⟨⟨v10, rfl, n10⟩, hx10⟩
      obtain ⟨p10, q10, rfl⟩ := n10.shape
      have N10 := Lib.hid (n10.from X9.out); have B10 := Lib.hid (B9.out.ext hx10); have R10 := Lib.hid (R9.out.ext hx10); have D10 := Lib.hid (D9.out.ext hx10); have X10 := Lib.hid (X9.out.trans hx10)
      clear hx10 n10 b9 fb9 r9 fr9 k9 j9
      have b10 := B10.out.cell; have fb10 := B10.out.free; have lb10 := B10.out.lt; have r10 := R10.out.cell; have fr10 := R10.out.free; have lr10 := R10.out.lt
      go_wp2_with fail
      refine bodyPost_ret (v := .agg #[.slice p10 (lim (P + Q)).length q10, .slice p8 (lim D).length q8, .bool s1]) (by simp only [results, Try.results74]; go_simp) rfl ⟨⟨_, rfl, .slice p10 (lim (P + Q)).length q10, .slice p8 (lim D).length q8, ?_, ?_, ?_⟩, ?_⟩
      · rw [HT.out, if_pos HS.out]
      · rw [HT.out, if_pos HS.out]
        exact (OwB.set3 (OwB.setBlk N10.out B10.out (by decide) 0 _) (R10.out.setOther (by dsimp only; omega) _) (by decide) _ _ _).rd
      · rw [HT.out, if_pos HS.out]
        exact (OwB.set3 (OwB.setBlk D10.out B10.out (by decide) 0 _) (R10.out.setOther (by dsimp only; omega) _) (by decide) _ _ _).rd
      · have := X10.out; (repeat (first | (with_reducible exact Ext.refl _) | (with_reducible assumption) | (with_reducible refine Ext.alloc ?_ _) | ((with_reducible refine Ext.setp ?_ ?_); focus (dsimp only; omega)) | (with_reducible refine Ext.drew ?_) | (with_reducible refine Ext.drewN ?_ _) | (with_reducible refine Ext.trans ?_ (by assumption))))
    · have hsb : (s1 == s2) = false := by simpa using hs
      have HS := Lib.hid hs
      clear hs
      go_wp2_with fail
      refine (HMI.out w9 _ _ M59.out.rd M79.out.rd).mono ?_
      rintro e w10 ⟨⟨v10, rfl, n10⟩, hx10⟩
      obtain ⟨U, hU⟩ : ∃ U, U = if P < Q then Q - P else P - Q := ⟨_, rfl⟩
      rw [← hU] at n10
      obtain ⟨p10, q10, rfl⟩ := n10.shape
      have HUU := Lib.hid hU
      clear hU
      have N10 := Lib.hid (n10.from X9.out); have B10 := Lib.hid (B9.out.ext hx10); have R10 := Lib.hid (R9.out.ext hx10); have D10 := Lib.hid (D9.out.ext hx10); have X10 := Lib.hid (X9.out.trans hx10); have J10 := Lib.hid (J9.out.ext hx10)
      clear hx10 n10 b9 fb9 r9 fr9 k9 j9
      have b10 := B10.out.cell; have fb10 := B10.out.free; have lb10 := B10.out.lt; have r10 := R10.out.cell; have fr10 := R10.out.free; have lr10 := R10.out.lt; have j10 := J10.out.cell; have lj10 := J10.out.lt
      by_cases hlt : P < Q
      · rw [decide_eq_true hlt]
        have HLT := Lib.hid hlt
        clear hlt
        go_wp2_with fail
        refine bodyPost_ret (v := .agg #[.slice p10 (lim U).length q10, .slice p8 (lim D).length q8, .bool s2]) (by simp only [results, Try.results74]; go_simp) rfl ⟨⟨_, rfl, .slice p10 (lim U).length q10, .slice p8 (lim D).length q8, ?_, ?_, ?_⟩, ?_⟩
        · rw [HT.out, if_neg HS.out, if_pos HLT.out]
        · rw [HT.out, if_neg HS.out, if_pos HLT.out, show Q - P = U by rw [HUU.out, if_pos HLT.out]]
          exact (OwB.set3 (OwB.setBlk (OwB.setBlk N10.out B10.out (by decide) 0 _) (B10.out.set 0 _) (by decide) 2 _) ((R10.out.setOther (by dsimp only; omega) _).setOther (by dsimp only; omega) _) (by decide) _ _ _).rd
        · rw [HT.out, if_neg HS.out, if_pos HLT.out]
          exact (OwB.set3 (OwB.setBlk (OwB.setBlk D10.out B10.out (by decide) 0 _) (B10.out.set 0 _) (by decide) 2 _) ((R10.out.setOther (by dsimp only; omega) _).setOther (by dsimp only; omega) _) (by decide) _ _ _).rd
        · have := X10.out; (repeat (first | (with_reducible exact Ext.refl _) | (with_reducible assumption) | (with_reducible refine Ext.alloc ?_ _) | ((with_reducible refine Ext.setp ?_ ?_); focus (dsimp only; omega)) | (with_reducible refine Ext.drew ?_) | (with_reducible refine Ext.drewN ?_ _) | (with_reducible refine Ext.trans ?_ (by assumption))))
      · rw [decide_eq_false hlt]
        have HLT := Lib.hid hlt
        clear hlt
        go_wp2_with fail
        refine bodyPost_ret (v := .agg #[.slice p10 (lim U).length q10, .slice p8 (lim D).length q8, .bool s1]) (by simp only [results, Try.results74]; go_simp) rfl ⟨⟨_, rfl, .slice p10 (lim U).length q10, .slice p8 (lim D).length q8, ?_, ?_, ?_⟩, ?_⟩
        · rw [HT.out, if_neg HS.out, if_neg HLT.out]
        · rw [HT.out, if_neg HS.out, if_neg HLT.out, show P - Q = U by rw [HUU.out, if_neg HLT.out]]
          exact (OwB.set3 (OwB.setBlk N10.out B10.out (by decide) 0 _) (R10.out.setOther (by dsimp only; omega) _) (by decide) _ _ _).rd
        · rw [HT.out, if_neg HS.out, if_neg HLT.out]
          exact (OwB.set3 (OwB.setBlk D10.out B10.out (by decide) 0 _) (R10.out.setOther (by dsimp only; omega) _) (by decide) _ _ _).rd
        · have := X10.out; (repeat (first | (with_reducible exact Ext.refl _) | (with_reducible assumption) | (with_reducible refine Ext.alloc ?_ _) | ((with_reducible refine Ext.setp ?_ ?_); focus (dsimp only; omega)) | (with_reducible refine Ext.drew ?_) | (with_reducible refine Ext.drewN ?_ _) | (with_reducible refine Ext.trans ?_ (by assumption))))

end Go.Proofs.Ytebdmmlniohhgaa
