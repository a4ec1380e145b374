/- Add, Sub, Mul and Div of layer 6 (written by mkops.py). Conditions: as each states. -/
import Derived.Test.YtebdmmlniohhgaaRatG
namespace Go.Proofs.Ytebdmmlniohhgaa
set_option linter.unusedSimpArgs false
set_option linter.unusedVariables false
open Go.RowKit

theorem valid_len {r : RR} (hl : LimR r) (h : chkR r = 0) : r.num.length ≤ 128 ∧ (dl r.den).length ≤ 128 ∧ NoZ r.num ∧ NoZ (dl r.den) ∧ nv (dl r.den) ≠ 0 ∧ Lim (dl r.den) := by
  obtain ⟨h1, h2, h3, h4, _⟩ := chkR_0 hl h
  refine ⟨h1, len_dl h2 (by omega), h3, noZ_dl h4, ?_, lim_dl hl.2⟩
  rw [nv_dl]; exact vof_den hl h

/-- A valid number as a value, its denominator written out. -/
def vod (r : RR) : Bool × Nat × Nat := (r.neg, nv r.num, nv (dl r.den))
theorem vod_vof (r : RR) : vod r = vof r := by unfold vod vof; rw [nv_dl]

theorem opR_congr {a b : RR} {x y : RR × Int} (h : chkR2 a b = 0 → x = y) : opR a b x = opR a b y := by
  unfold opR
  by_cases hc : chkR2 a b = 0
  · rw [if_pos hc, if_pos hc, h hc]
  · rw [if_neg hc, if_neg hc]

theorem sumV_le (a b : Bool × Nat × Nat) : (sumV a b).2.1 ≤ a.2.1 * b.2.2 + b.2.1 * a.2.2 := by
  unfold sumV
  split
  · exact Nat.le_refl _
  · split
    · dsimp only; omega
    · dsimp only; omega
theorem sumV_den (a b : Bool × Nat × Nat) : (sumV a b).2.2 = a.2.2 * b.2.2 := by
  unfold sumV
  split
  · rfl
  · split <;> rfl

theorem prod_lt {x y a b : Nat} (hx : x < 4294967296 ^ a) (hy : y < 4294967296 ^ b) : x * y < 4294967296 ^ (a + b) := by
  rw [Nat.pow_add]; exact Nat.mul_lt_mul'' hx hy

theorem lt_of_len {l : List Int} (h : Lim l) {k : Nat} (hk : l.length ≤ k) : nv l < 4294967296 ^ k := Nat.lt_of_lt_of_le (nv_lt h) (pow_le hk)

theorem len_prod {l1 l2 : List Int} (h1 : Lim l1) (h2 : Lim l2) {k : Nat} (k1 : l1.length ≤ k) (k2 : l2.length ≤ k) : (lim (nv l1 * nv l2)).length ≤ k + k := lim_len_le.2 (prod_lt (lt_of_len h1 k1) (lt_of_len h2 k2))

theorem len_sum {x y k : Nat} (hx : (lim x).length ≤ k) (hy : (lim y).length ≤ k) {z : Nat} (hz : z ≤ x + y) : (lim z).length ≤ k + 1 :=
  lim_len_le.2 (Nat.lt_of_le_of_lt hz (lt_max k k k (Nat.le_refl _) (Nat.le_refl _) (lim_len_le.1 hx) (lim_len_le.1 hy)))

theorem sumV_fits {ra rb : RR} (s : Bool) (la : LimR ra) (lb : LimR rb) (ha : chkR ra = 0) (hb : chkR rb = 0) :
    (sumV (vod ra) (s, nv rb.num, nv (dl rb.den))).2.2 ≠ 0 ∧ (lim (sumV (vod ra) (s, nv rb.num, nv (dl rb.den))).2.1).length ≤ 512 ∧ (lim (sumV (vod ra) (s, nv rb.num, nv (dl rb.den))).2.2).length ≤ 512 := by
  obtain ⟨p1, p2, p3, p4, p5, p6⟩ := valid_len la ha
  obtain ⟨q1, q2, q3, q4, q5, q6⟩ := valid_len lb hb
  have e1 := len_prod la.1 q6 p1 q2
  have e2 := len_prod lb.1 p6 q1 p2
  have e3 := len_prod p6 q6 p2 q2
  have e4 := len_sum e1 e2 (sumV_le (vod ra) (s, nv rb.num, nv (dl rb.den)))
  refine ⟨?_, by omega, ?_⟩
  · rw [sumV_den]; exact Nat.mul_ne_zero p5 q5
  · rw [sumV_den]; exact Nat.le_trans e3 (by omega)

theorem vq_neg (s : Bool) (n d : Nat) : vq (!s, n, d) = - vq (s, n, d) := by
  unfold vq
  dsimp only
  rw [Rat.neg_mkRat]
  congr 1
  cases s <;> simp [sg]

theorem vq_inv {b : RR} (hl : LimR b) (h : chkR b = 0) (h0 : b.num ≠ []) : vq (b.neg, nv (dl b.den), nv b.num) = (qv b)⁻¹ := by
  have hn : nv b.num ≠ 0 := nv_ne hl.1 (chkR_0 hl h).2.2.1 h0
  have e := (valid_rep hl h).1
  have e2 := (valid_rep hl h).2.1
  rw [Rat.inv_def, e, e2, nv_dl]
  unfold vq
  dsimp only
  cases b.neg
  · show mkRat (sg false _) _ = Rat.divInt (dnv b.den : Int) (sg false (nv b.num))
    unfold sg; simp
  · show mkRat (sg true _) _ = Rat.divInt (dnv b.den : Int) (sg true (nv b.num))
    unfold sg
    simp only [if_true]
    rw [Rat.divInt_neg', Rat.divInt_ofNat]


theorem operate_add (va vb : Value) (ra rb : RR) (w : World) (ha : RdR w va ra) (hb : RdR w vb rb) (la : LimR ra) (lb : LimR rb) :
    Calls Try.prog 73 #[va, vb, .func (.func 74) #[] #[]] w fun e w' => ResR w w' e (addR ra rb) ∧ Ext w w' := by
  have h := operate_any 74 (enters_of Try.func74 (by kernel_rfl) rfl) va vb ra rb w ha hb la lb (sumV (vod ra) (rb.neg, nv rb.num, nv (dl rb.den)))
    (fun hc => sumV_fits rb.neg la lb (chkR2_0 hc).1 (chkR2_0 hc).2)
    (fun hc W v1 v2 h1 h2 => by
      obtain ⟨p1, p2, p3, p4, p5, p6⟩ := valid_len la (chkR2_0 hc).1
      obtain ⟨q1, q2, q3, q4, q5, q6⟩ := valid_len lb (chkR2_0 hc).2
      exact sumR_any v1 v2 ra.neg rb.neg ra.num (dl ra.den) rb.num (dl rb.den) W h1 h2 la.1 p6 lb.1 q6 p3 p4 q3 q4 (by omega) (by omega) (by omega) (by omega))
  have e : opR ra rb (fitR (vq (sumV (vod ra) (rb.neg, nv rb.num, nv (dl rb.den))))) = addR ra rb := opR_congr fun hc => by
    obtain ⟨p1, p2, p3, p4, p5, p6⟩ := valid_len la (chkR2_0 hc).1
    obtain ⟨q1, q2, q3, q4, q5, q6⟩ := valid_len lb (chkR2_0 hc).2
    rw [vq_sum p5 q5, vod_vof, vq_vof]
    show fitR (qv ra + vq (vod rb)) = _
    rw [vod_vof, vq_vof]
  rwa [e] at h

theorem operate_sub (va vb : Value) (ra rb : RR) (w : World) (ha : RdR w va ra) (hb : RdR w vb rb) (la : LimR ra) (lb : LimR rb) :
    Calls Try.prog 73 #[va, vb, .func (.func 75) #[] #[]] w fun e w' => ResR w w' e (subR ra rb) ∧ Ext w w' := by
  have h := operate_any 75 (enters_of Try.func75 (by kernel_rfl) rfl) va vb ra rb w ha hb la lb (sumV (vod ra) (!rb.neg, nv rb.num, nv (dl rb.den)))
    (fun hc => sumV_fits (!rb.neg) la lb (chkR2_0 hc).1 (chkR2_0 hc).2)
    (fun hc W v1 v2 h1 h2 => by
      obtain ⟨p1, p2, p3, p4, p5, p6⟩ := valid_len la (chkR2_0 hc).1
      obtain ⟨q1, q2, q3, q4, q5, q6⟩ := valid_len lb (chkR2_0 hc).2
      exact subR1_any v1 v2 ra.neg rb.neg ra.num (dl ra.den) rb.num (dl rb.den) W h1 h2 la.1 p6 lb.1 q6 p3 p4 q3 q4 (by omega) (by omega) (by omega) (by omega))
  have e : opR ra rb (fitR (vq (sumV (vod ra) (!rb.neg, nv rb.num, nv (dl rb.den))))) = subR ra rb := opR_congr fun hc => by
    obtain ⟨p1, p2, p3, p4, p5, p6⟩ := valid_len la (chkR2_0 hc).1
    obtain ⟨q1, q2, q3, q4, q5, q6⟩ := valid_len lb (chkR2_0 hc).2
    rw [vq_sum p5 q5, vod_vof, vq_vof, vq_neg]
    show fitR (qv ra + - vq (vod rb)) = _
    rw [vod_vof, vq_vof, ← Rat.sub_eq_add_neg]
  rwa [e] at h

theorem operate_mul (va vb : Value) (ra rb : RR) (w : World) (ha : RdR w va ra) (hb : RdR w vb rb) (la : LimR ra) (lb : LimR rb) :
    Calls Try.prog 73 #[va, vb, .func (.func 76) #[] #[]] w fun e w' => ResR w w' e (mulR ra rb) ∧ Ext w w' := by
  have h := operate_any 76 (enters_of Try.func76 (by kernel_rfl) rfl) va vb ra rb w ha hb la lb (prodV (vod ra) (vod rb))
    (fun hc => by
      obtain ⟨p1, p2, p3, p4, p5, p6⟩ := valid_len la (chkR2_0 hc).1
      obtain ⟨q1, q2, q3, q4, q5, q6⟩ := valid_len lb (chkR2_0 hc).2
      exact ⟨Nat.mul_ne_zero p5 q5, Nat.le_trans (len_prod la.1 lb.1 p1 q1) (by omega), Nat.le_trans (len_prod p6 q6 p2 q2) (by omega)⟩)
    (fun hc W v1 v2 h1 h2 => by
      obtain ⟨p1, p2, p3, p4, p5, p6⟩ := valid_len la (chkR2_0 hc).1
      obtain ⟨q1, q2, q3, q4, q5, q6⟩ := valid_len lb (chkR2_0 hc).2
      exact productR_any v1 v2 ra.neg rb.neg ra.num (dl ra.den) rb.num (dl rb.den) W h1 h2 la.1 p6 lb.1 q6 p3 p4 q3 q4 (by omega) (by omega) (by omega) (by omega))
  have e : opR ra rb (fitR (vq (prodV (vod ra) (vod rb)))) = mulR ra rb := opR_congr fun hc => by
    rw [vq_prod, vod_vof, vod_vof, vq_vof, vq_vof]
  rwa [e] at h

theorem operate_div (va vb : Value) (ra rb : RR) (w : World) (ha : RdR w va ra) (hb : RdR w vb rb) (la : LimR ra) (lb : LimR rb) (h0 : rb.num ≠ []) :
    Calls Try.prog 73 #[va, vb, .func (.func 78) #[] #[]] w fun e w' => ResR w w' e (opR ra rb (fitR (qv ra / qv rb))) ∧ Ext w w' := by
  have h := operate_any 78 (enters_of Try.func78 (by kernel_rfl) rfl) va vb ra rb w ha hb la lb (prodV (vod ra) (rb.neg, nv (dl rb.den), nv rb.num))
    (fun hc => by
      obtain ⟨p1, p2, p3, p4, p5, p6⟩ := valid_len la (chkR2_0 hc).1
      obtain ⟨q1, q2, q3, q4, q5, q6⟩ := valid_len lb (chkR2_0 hc).2
      exact ⟨Nat.mul_ne_zero p5 (nv_ne lb.1 q3 h0), Nat.le_trans (len_prod la.1 q6 p1 q2) (by omega), Nat.le_trans (len_prod p6 lb.1 p2 q1) (by omega)⟩)
    (fun hc W v1 v2 h1 h2 => by
      obtain ⟨p1, p2, p3, p4, p5, p6⟩ := valid_len la (chkR2_0 hc).1
      obtain ⟨q1, q2, q3, q4, q5, q6⟩ := valid_len lb (chkR2_0 hc).2
      exact divR1_any v1 v2 ra.neg rb.neg ra.num (dl ra.den) rb.num (dl rb.den) W h1 h2 la.1 p6 lb.1 q6 p3 p4 q3 q4 (by omega) (by omega) (by omega) (by omega))
  have e : opR ra rb (fitR (vq (prodV (vod ra) (rb.neg, nv (dl rb.den), nv rb.num)))) = opR ra rb (fitR (qv ra / qv rb)) := opR_congr fun hc => by
    rw [vq_prod, vod_vof, vq_vof, vq_inv lb (chkR2_0 hc).2 h0, Rat.div_def]
  rwa [e] at h

set_option maxHeartbeats 1000000 in
theorem addR_any (va vb : Value) (ra rb : RR) (w : World) (ha : RdR w va ra) (hb : RdR w vb rb) (la : LimR ra) (lb : LimR rb) :
    Calls Try.prog 24 #[va, vb] w fun e w' => ResR w w' e (addR ra rb) ∧ Ext w w' := by
  have ho := fun W (x : Ext w W) => operate_add va vb ra rb W (ha.ext x) (hb.ext x) la lb
  obtain ⟨a1, c1, a2, c2, rfl⟩ := ha.shape
  obtain ⟨a3, c3, a4, c4, rfl⟩ := hb.shape
  obtain ⟨R, hR⟩ : ∃ R, R = addR ra rb := ⟨_, rfl⟩
  rw [← hR] at ho ⊢
  obtain ⟨s1, l1, l2⟩ := ra
  obtain ⟨s2, l3, l4⟩ := rb
  dsimp only at ho ⊢
  have HO := Lib.hid ho
  clear hR ho ha hb la lb
  have b2 := Blk.new ((w.alloc (.cells #[.bool s1, .slice a1 l1.length c1, .slice a2 l2.length c2] 26)).alloc (.cells #[.bool s2, .slice a3 l3.length c3, .slice a4 l4.length c4] 26)) #[.bool false, .slice none 0 0, .slice none 0 0] 26
  rw [World.size_alloc, World.size_alloc] at b2
  have B2 := Lib.hid b2
  have X0 := Lib.hid (show Ext w (((w.alloc (.cells #[.bool s1, .slice a1 l1.length c1, .slice a2 l2.length c2] 26)).alloc (.cells #[.bool s2, .slice a3 l3.length c3, .slice a4 l4.length c4] 26)).alloc (.cells #[.bool false, .slice none 0 0, .slice none 0 0] 26)) from (((Ext.refl w).alloc _).alloc _).alloc _)
  clear b2
  go_enter Try.func24, Try.ntmps24
  go_wp2_with fail
  refine (HO.out _ X0.out).mono ?_
  rintro e w1 ⟨⟨v1, rfl, n1⟩, hx1⟩
  obtain ⟨a5, c5, a6, c6, rfl⟩ := n1.shape
  have B1 := Lib.hid (B2.out.ext hx1); have X1 := Lib.hid (X0.out.trans hx1); have N1 := Lib.hid (n1.from X0.out)
  clear hx1 n1
  have c0 := B1.out.cell; have f0 := B1.out.free; have l0 := B1.out.lt
  obtain ⟨R1, R2⟩ := R
  dsimp only at *
  go_wp2_with fail
  refine bodyPost_ret (v := .tuple #[.agg #[.bool R1.neg, .slice a5 R1.num.length c5, .slice a6 R1.den.length c6], .int .i64 R2]) (by simp only [results, Try.results24]; go_simp) rfl ⟨ResR.mk (NewR.set3 N1.out B1.out (by decide) _ _ _) rfl, ?_⟩
  have := X1.out; (repeat (first | (with_reducible exact Ext.refl _) | (with_reducible assumption) | (with_reducible refine Ext.alloc ?_ _) | ((with_reducible refine Ext.setp ?_ ?_); focus (dsimp only; omega)) | (with_reducible refine Ext.drew ?_) | (with_reducible refine Ext.drewN ?_ _) | (with_reducible refine Ext.trans ?_ (by assumption))))

set_option maxHeartbeats 1000000 in
theorem subR_any (va vb : Value) (ra rb : RR) (w : World) (ha : RdR w va ra) (hb : RdR w vb rb) (la : LimR ra) (lb : LimR rb) :
    Calls Try.prog 25 #[va, vb] w fun e w' => ResR w w' e (subR ra rb) ∧ Ext w w' := by
  have ho := fun W (x : Ext w W) => operate_sub va vb ra rb W (ha.ext x) (hb.ext x) la lb
  obtain ⟨a1, c1, a2, c2, rfl⟩ := ha.shape
  obtain ⟨a3, c3, a4, c4, rfl⟩ := hb.shape
  obtain ⟨R, hR⟩ : ∃ R, R = subR ra rb := ⟨_, rfl⟩
  rw [← hR] at ho ⊢
  obtain ⟨s1, l1, l2⟩ := ra
  obtain ⟨s2, l3, l4⟩ := rb
  dsimp only at ho ⊢
  have HO := Lib.hid ho
  clear hR ho ha hb la lb
  have b2 := Blk.new ((w.alloc (.cells #[.bool s1, .slice a1 l1.length c1, .slice a2 l2.length c2] 26)).alloc (.cells #[.bool s2, .slice a3 l3.length c3, .slice a4 l4.length c4] 26)) #[.bool false, .slice none 0 0, .slice none 0 0] 26
  rw [World.size_alloc, World.size_alloc] at b2
  have B2 := Lib.hid b2
  have X0 := Lib.hid (show Ext w (((w.alloc (.cells #[.bool s1, .slice a1 l1.length c1, .slice a2 l2.length c2] 26)).alloc (.cells #[.bool s2, .slice a3 l3.length c3, .slice a4 l4.length c4] 26)).alloc (.cells #[.bool false, .slice none 0 0, .slice none 0 0] 26)) from (((Ext.refl w).alloc _).alloc _).alloc _)
  clear b2
  go_enter Try.func25, Try.ntmps25
  go_wp2_with fail
  refine (HO.out _ X0.out).mono ?_
  rintro e w1 ⟨⟨v1, rfl, n1⟩, hx1⟩
  obtain ⟨a5, c5, a6, c6, rfl⟩ := n1.shape
  have B1 := Lib.hid (B2.out.ext hx1); have X1 := Lib.hid (X0.out.trans hx1); have N1 := Lib.hid (n1.from X0.out)
  clear hx1 n1
  have c0 := B1.out.cell; have f0 := B1.out.free; have l0 := B1.out.lt
  obtain ⟨R1, R2⟩ := R
  dsimp only at *
  go_wp2_with fail
  refine bodyPost_ret (v := .tuple #[.agg #[.bool R1.neg, .slice a5 R1.num.length c5, .slice a6 R1.den.length c6], .int .i64 R2]) (by simp only [results, Try.results25]; go_simp) rfl ⟨ResR.mk (NewR.set3 N1.out B1.out (by decide) _ _ _) rfl, ?_⟩
  have := X1.out; (repeat (first | (with_reducible exact Ext.refl _) | (with_reducible assumption) | (with_reducible refine Ext.alloc ?_ _) | ((with_reducible refine Ext.setp ?_ ?_); focus (dsimp only; omega)) | (with_reducible refine Ext.drew ?_) | (with_reducible refine Ext.drewN ?_ _) | (with_reducible refine Ext.trans ?_ (by assumption))))

set_option maxHeartbeats 1000000 in
theorem mulR_any (va vb : Value) (ra rb : RR) (w : World) (ha : RdR w va ra) (hb : RdR w vb rb) (la : LimR ra) (lb : LimR rb) :
    Calls Try.prog 26 #[va, vb] w fun e w' => ResR w w' e (mulR ra rb) ∧ Ext w w' := by
  have ho := fun W (x : Ext w W) => operate_mul va vb ra rb W (ha.ext x) (hb.ext x) la lb
  obtain ⟨a1, c1, a2, c2, rfl⟩ := ha.shape
  obtain ⟨a3, c3, a4, c4, rfl⟩ := hb.shape
  obtain ⟨R, hR⟩ : ∃ R, R = mulR ra rb := ⟨_, rfl⟩
  rw [← hR] at ho ⊢
  obtain ⟨s1, l1, l2⟩ := ra
  obtain ⟨s2, l3, l4⟩ := rb
  dsimp only at ho ⊢
  have HO := Lib.hid ho
  clear hR ho ha hb la lb
  have b2 := Blk.new ((w.alloc (.cells #[.bool s1, .slice a1 l1.length c1, .slice a2 l2.length c2] 26)).alloc (.cells #[.bool s2, .slice a3 l3.length c3, .slice a4 l4.length c4] 26)) #[.bool false, .slice none 0 0, .slice none 0 0] 26
  rw [World.size_alloc, World.size_alloc] at b2
  have B2 := Lib.hid b2
  have X0 := Lib.hid (show Ext w (((w.alloc (.cells #[.bool s1, .slice a1 l1.length c1, .slice a2 l2.length c2] 26)).alloc (.cells #[.bool s2, .slice a3 l3.length c3, .slice a4 l4.length c4] 26)).alloc (.cells #[.bool false, .slice none 0 0, .slice none 0 0] 26)) from (((Ext.refl w).alloc _).alloc _).alloc _)
  clear b2
  go_enter Try.func26, Try.ntmps26
  go_wp2_with fail
  refine (HO.out _ X0.out).mono ?_
  rintro e w1 ⟨⟨v1, rfl, n1⟩, hx1⟩
  obtain ⟨a5, c5, a6, c6, rfl⟩ := n1.shape
  have B1 := Lib.hid (B2.out.ext hx1); have X1 := Lib.hid (X0.out.trans hx1); have N1 := Lib.hid (n1.from X0.out)
  clear hx1 n1
  have c0 := B1.out.cell; have f0 := B1.out.free; have l0 := B1.out.lt
  obtain ⟨R1, R2⟩ := R
  dsimp only at *
  go_wp2_with fail
  refine bodyPost_ret (v := .tuple #[.agg #[.bool R1.neg, .slice a5 R1.num.length c5, .slice a6 R1.den.length c6], .int .i64 R2]) (by simp only [results, Try.results26]; go_simp) rfl ⟨ResR.mk (NewR.set3 N1.out B1.out (by decide) _ _ _) rfl, ?_⟩
  have := X1.out; (repeat (first | (with_reducible exact Ext.refl _) | (with_reducible assumption) | (with_reducible refine Ext.alloc ?_ _) | ((with_reducible refine Ext.setp ?_ ?_); focus (dsimp only; omega)) | (with_reducible refine Ext.drew ?_) | (with_reducible refine Ext.drewN ?_ _) | (with_reducible refine Ext.trans ?_ (by assumption))))

end Go.Proofs.Ytebdmmlniohhgaa
