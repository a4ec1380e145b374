/- Walks of the reference of layer 6: den, fit, Wrong, Product, Sum (written by mkref6.py). Conditions: as each states. -/
import Derived.Test.YtlbppdgijjbjbaaRatRb
import Derived.Test.YtlbppdgijjbjbaaGK
namespace Go.Proofs.Ytlbppdgijjbjbaa
set_option linter.unusedSimpArgs false
set_option linter.unusedVariables false
open Go.RowKit

/-- Lengths that the reference bears. -/
def lenR (r : RR) (k : Nat) : Prop := r.num.length ≤ k ∧ r.den.length ≤ k
theorem nv_repn (q : Rat) : nv (rep q).num = q.num.natAbs := nv_lim _
theorem nv_repd (q : Rat) : nv (dl (rep q).den) = q.den := by rw [nv_dl, den_rep]
theorem neg_rep0 (q : Rat) : (rep q).neg = decide (q.num < 0) := rfl
theorem valid_eq {r : RR} (hl : LimR r) (h : chkR r = 0) : r = rep (qv r) := (valid_rep hl h).2.2.symm
theorem lenR_of_bd {q : Rat} {k : Nat} (h : bd q k) : lenR (rep q) k := by
  refine ⟨lim_len_le.2 h.1, ?_⟩
  unfold rep
  dsimp only
  split
  · simp
  · exact lim_len_le.2 h.2
theorem bd_of_lenR {q : Rat} {k : Nat} (h : lenR (rep q) k) (hk : 1 ≤ k) : bd q k := by
  refine ⟨?_, ?_⟩
  · rw [← nv_repn]; exact lt_of_len (limR_rep q).1 h.1
  · rw [← nv_repd]; exact lt_of_len (lim_dl (limR_rep q).2) (len_dl h.2 hk)
theorem lenR_mono {r : RR} {k m : Nat} (h : lenR r k) (hk : k ≤ m) : lenR r m := ⟨Nat.le_trans h.1 hk, Nat.le_trans h.2 hk⟩

theorem prod_rep (a b : Rat) : rep (mkRat (sg ((rep a).neg != (rep b).neg) (nv (rep a).num * nv (rep b).num)) (nv (dl (rep a).den) * nv (dl (rep b).den))) = rep (a * b) := by
  have h := vq_prod (vod (rep a)) (vod (rep b))
  have ea : vq (vod (rep a)) = a := by rw [vod_vof, vq_vof, qv_rep]
  have eb : vq (vod (rep b)) = b := by rw [vod_vof, vq_vof, qv_rep]
  rw [ea, eb] at h
  rw [← h]; rfl
theorem sum_rep (a b : Rat) : rep (vq (sumV (vod (rep a)) (vod (rep b)))) = rep (a + b) := by
  have d1 : (vod (rep a)).2.2 ≠ 0 := by show nv (dl (rep a).den) ≠ 0; rw [nv_repd]; exact a.den_nz
  have d2 : (vod (rep b)).2.2 ≠ 0 := by show nv (dl (rep b).den) ≠ 0; rw [nv_repd]; exact b.den_nz
  rw [vq_sum d1 d2]
  rw [vod_vof, vq_vof, qv_rep, vod_vof, vq_vof, qv_rep]


end Go.Proofs.Ytlbppdgijjbjbaa
