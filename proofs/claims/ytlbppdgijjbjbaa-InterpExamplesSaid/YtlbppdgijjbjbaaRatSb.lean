/- Walks of the reference of layer 6: Minus, Order, Cmp (written by mkref6b.py). Conditions: as each states. -/
import Derived.Test.YtlbppdgijjbjbaaRatSa
namespace Go.Proofs.Ytlbppdgijjbjbaa
set_option linter.unusedSimpArgs false
set_option linter.unusedVariables false
open Go.RowKit

/-- What Minus returns. -/
def minR (r : RR) : RR := ⟨!r.neg && decide (0 < r.num.length), r.num, r.den⟩
theorem minR_rep (q : Rat) : minR (rep q) = rep (-q) := by
  have e1 : (-q).num = -q.num := Rat.neg_num q
  have e2 : (-q).den = q.den := Rat.neg_den q
  unfold minR rep
  rw [e1, e2, Int.natAbs_neg]
  congr 1
  by_cases h : q.num < 0
  · simp only [decide_eq_true h, Bool.not_true, Bool.false_and]
    exact (decide_eq_false (by omega)).symm
  · by_cases h0 : q.num = 0
    · rw [h0]; rfl
    · have h1 : -q.num < 0 := by omega
      have h2 : 0 < (lim q.num.natAbs).length := by
        apply List.length_pos_iff.2
        intro e
        have := nv_lim q.num.natAbs
        rw [e] at this
        have : q.num.natAbs = 0 := this.symm
        omega
      simp only [decide_eq_false h, decide_eq_true h1, decide_eq_true h2]; rfl

theorem ord_rep (d : Rat) : ((rep d).neg = true → d < 0) ∧ ((rep d).neg = false → (0 < (rep d).num.length → 0 < d) ∧ ((rep d).num.length = 0 → d = 0)) := by
  have hv := vq_sign (x := (decide (d.num < 0), d.num.natAbs, d.den)) d.den_nz
  rw [vq_self] at hv
  obtain ⟨h0, h1⟩ := hv
  dsimp only at h0 h1
  refine ⟨fun h => ?_, fun h => ⟨fun hl => ?_, fun hl => ?_⟩⟩
  · have hn : d.num < 0 := of_decide_eq_true h
    exact (h1 (by omega)).1 h
  · have hn : d.num.natAbs ≠ 0 := by
      intro e
      have : (rep d).num = [] := by show lim d.num.natAbs = []; rw [e]; rfl
      rw [this] at hl; cases hl
    exact (h1 hn).2 h
  · apply h0
    have := nv_repn d
    rw [List.length_eq_zero_iff.1 hl] at this
    exact this.symm
theorem bd_neg_len {q : Rat} {k : Nat} (h : lenR (rep q) k) : lenR (rep (-q)) k := by rw [← minR_rep]; exact h

theorem valid_lenR {r : RR} (hl : LimR r) (h : chkR r = 0) : lenR r 128 := ⟨(chkR_0 hl h).1, (chkR_0 hl h).2.1⟩

end Go.Proofs.Ytlbppdgijjbjbaa
