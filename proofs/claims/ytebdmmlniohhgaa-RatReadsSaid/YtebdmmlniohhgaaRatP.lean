/- Plain laws: sizes of sums and products of rational numbers; the operations on numbers that are written as Lean's own say. Conditions: as each states. -/
import Derived.Test.YtebdmmlniohhgaaRatLo
namespace Go.Proofs.Ytebdmmlniohhgaa
set_option linter.unusedSimpArgs false
set_option linter.unusedVariables false

/-- At most k limbs. -/
def bd (q : Rat) (k : Nat) : Prop := q.num.natAbs < 4294967296 ^ k ∧ q.den < 4294967296 ^ k

theorem small_of_bd {q : Rat} {k : Nat} (h : bd q k) (hk : k ≤ 128) : small q := by
  refine ⟨Nat.le_trans (lim_len_le.2 h.1) hk, ?_⟩
  unfold rep
  dsimp only
  split
  · simp
  · exact Nat.le_trans (lim_len_le.2 h.2) hk
theorem bd_mono {q : Rat} {k m : Nat} (h : bd q k) (hk : k ≤ m) : bd q m := ⟨Nat.lt_of_lt_of_le h.1 (pow_le hk), Nat.lt_of_lt_of_le h.2 (pow_le hk)⟩

theorem vq_self (q : Rat) : vq (decide (q.num < 0), q.num.natAbs, q.den) = q := by
  have h := num_rep q
  unfold vq
  dsimp only
  have e : sg (decide (q.num < 0)) q.num.natAbs = q.num := by
    unfold sg
    by_cases h : q.num < 0
    · rw [if_pos (by simpa using h)]; omega
    · rw [if_neg (by simpa using h)]; omega
  rw [e, Rat.mkRat_self]

theorem vq_num_le {x : Bool × Nat × Nat} (h : x.2.2 ≠ 0) : (vq x).num.natAbs ≤ x.2.1 ∧ (vq x).den ≤ x.2.2 := by
  obtain ⟨s, n, d⟩ := x
  unfold vq
  dsimp only at h ⊢
  rw [Rat.num_mkRat, Rat.den_mkRat, if_neg h, if_neg h]
  refine ⟨?_, Nat.div_le_self _ _⟩
  refine Nat.le_trans (Int.natAbs_ediv_le_natAbs _ _) ?_
  rw [sg_abs]
  exact Nat.le_refl _

theorem bd_vq {x : Bool × Nat × Nat} {k : Nat} (h : x.2.2 ≠ 0) (h1 : x.2.1 < 4294967296 ^ k) (h2 : x.2.2 < 4294967296 ^ k) : bd (vq x) k :=
  ⟨Nat.lt_of_le_of_lt (vq_num_le h).1 h1, Nat.lt_of_le_of_lt (vq_num_le h).2 h2⟩

theorem bd_add {a b : Rat} {k m : Nat} (ha : bd a k) (hb : bd b m) : bd (a + b) (k + m + 1) := by
  have e := vq_sum (a := (decide (a.num < 0), a.num.natAbs, a.den)) (b := (decide (b.num < 0), b.num.natAbs, b.den)) a.den_nz b.den_nz
  rw [vq_self, vq_self] at e
  rw [← e]
  have h1 := prod_lt ha.1 hb.2
  have h2 := prod_lt hb.1 ha.2
  have h3 := prod_lt ha.2 hb.2
  have h4 : (4294967296 : Nat) ^ (k + m) * 2 ≤ 4294967296 ^ (k + m + 1) := by rw [Nat.pow_succ]; exact Nat.mul_le_mul_left _ (by decide)
  rw [Nat.add_comm m k] at h2
  refine bd_vq ?_ ?_ ?_
  · rw [sumV_den]; exact Nat.mul_ne_zero a.den_nz b.den_nz
  · refine Nat.lt_of_le_of_lt (sumV_le _ _) ?_
    dsimp only
    omega
  · rw [sumV_den]
    dsimp only
    omega

theorem bd_mul {a b : Rat} {k m : Nat} (ha : bd a k) (hb : bd b m) : bd (a * b) (k + m) := by
  have e := vq_prod (decide (a.num < 0), a.num.natAbs, a.den) (decide (b.num < 0), b.num.natAbs, b.den)
  rw [vq_self, vq_self] at e
  rw [← e]
  exact bd_vq (Nat.mul_ne_zero a.den_nz b.den_nz) (prod_lt ha.1 hb.1) (prod_lt ha.2 hb.2)

theorem bd_neg {a : Rat} {k : Nat} (ha : bd a k) : bd (-a) k := by
  unfold bd
  rw [Rat.neg_num, Rat.neg_den, Int.natAbs_neg]
  exact ha
theorem bd_sub {a b : Rat} {k m : Nat} (ha : bd a k) (hb : bd b m) : bd (a - b) (k + m + 1) := by
  rw [Rat.sub_eq_add_neg]
  exact bd_add ha (bd_neg hb)

theorem bd_valid {r : RR} (hl : LimR r) (hc : chkR r = 0) (h1 : okLen r.num.length) (h2 : okLen r.den.length) : bd (qv r) 6 := by
  obtain ⟨e1, e2, _⟩ := valid_rep hl hc
  obtain ⟨g1, g2, _⟩ := chkR_0 hl hc
  unfold okLen at h1 h2
  unfold bd
  rw [e1, e2, sg_abs]
  refine ⟨Nat.lt_of_lt_of_le (nv_lt hl.1) (pow_le (by omega)), ?_⟩
  unfold dnv
  split
  · exact Nat.lt_of_lt_of_le (by decide : 1 < 4294967296 ^ 1) (pow_le (by omega))
  · exact Nat.lt_of_lt_of_le (nv_lt hl.2) (pow_le (by omega))

theorem opR_rep {a b : Rat} (ha : small a) (hb : small b) (x : RR × Int) : opR (rep a) (rep b) x = x := by
  unfold opR
  rw [if_pos (chkR2_ok (chk_rep ha) (chk_rep hb))]
theorem add_rep {a b : Rat} (ha : small a) (hb : small b) (h : small (a + b)) : addR (rep a) (rep b) = (rep (a + b), 0) := by
  unfold addR; rw [opR_rep ha hb, qv_rep, qv_rep, fitR_ok h]
theorem sub_rep {a b : Rat} (ha : small a) (hb : small b) (h : small (a - b)) : subR (rep a) (rep b) = (rep (a - b), 0) := by
  unfold subR; rw [opR_rep ha hb, qv_rep, qv_rep, fitR_ok h]
theorem mul_rep {a b : Rat} (ha : small a) (hb : small b) (h : small (a * b)) : mulR (rep a) (rep b) = (rep (a * b), 0) := by
  unfold mulR; rw [opR_rep ha hb, qv_rep, qv_rep, fitR_ok h]
theorem rep_num_nil {b : Rat} : (rep b).num = [] ↔ b = 0 := by
  constructor
  · intro h
    have : nv (rep b).num = b.num.natAbs := nv_lim _
    rw [h] at this
    have h0 : b.num = 0 := by
      have : (0 : Nat) = b.num.natAbs := this
      omega
    exact Rat.num_eq_zero.1 h0
  · rintro rfl; rfl
theorem div_rep {a b : Rat} (ha : small a) (hb : small b) (h0 : b ≠ 0) (h : small (a / b)) : divR (rep a) (rep b) = (rep (a / b), 0) := by
  unfold divR; rw [opR_rep ha hb, if_neg (fun e => h0 (rep_num_nil.1 e)), qv_rep, qv_rep, fitR_ok h]
theorem div_rep0 {a : Rat} (ha : small a) : divR (rep a) (rep 0) = (zR, 14) := by
  unfold divR; rw [opR_rep ha (by decide), if_pos (rep_num_nil.2 rfl)]
theorem neg_rep {a : Rat} (ha : small a) : negR (rep a) = (rep (-a), 0) := by
  unfold negR; rw [if_pos (chk_rep ha), qv_rep]

end Go.Proofs.Ytebdmmlniohhgaa
