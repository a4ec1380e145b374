/- Part of the proof of imatL_holds: what the row needs of RatSa. Conditions: as each theorem states. -/
import Derived.Test.YthkfkfbfblppeaaGreatSwRatRb
import Derived.Test.YthkfkfbfblppeaaGreatSwGK
namespace Go.Proofs.YthkfkfbfblppeaaGreat
set_option linter.unusedSimpArgs false
set_option linter.unusedVariables false
open Go.RowKit
def lenR (r : RR) (k : Nat) : Prop := r.num.length ≤ k ∧ r.den.length ≤ k
theorem nv_repd (q : Rat) : nv (dl (rep q).den) = q.den := by rw [nv_dl, den_rep]
theorem den_any (v : Value) (r : RR) (w : World) (h : RdR w v r) :
    Calls Tryz.prog 139 #[v] w fun e w' => (∃ v', e = .returned v' ∧ RdI .u32 w' v' (dl r.den)) ∧ Ext w w' := by
  obtain ⟨a1, c1, a2, c2, rfl, hn, hd⟩ := h.parts
  obtain ⟨b, l1, l2⟩ := r
  dsimp only at hn hd ⊢
  clear h
  have HD := Lib.hid hd
  have X0 := Lib.hid ((Ext.refl w).alloc (.cells #[.bool b, .slice a1 l1.length c1, .slice a2 l2.length c2] 62))
  clear hn hd
  by_cases hz : l2 = []
  · have q1 : ((l2.length : Int) == 0) = true := by rw [hz]; rfl
    have e : dl l2 = [1] := if_pos hz
    rw [e]
    clear hz e
    go_enter Tryz.func139, Tryz.ntmps139
    go_wp2_with fail
    refine (one_any _).mono ?_
    rintro e w1 ⟨⟨v, rfl, n1⟩, hx1⟩
    obtain ⟨a3, c3, rfl⟩ := n1.shape
    have N1 := Lib.hid n1.rd; have X1 := Lib.hid (X0.out.trans hx1)
    clear n1 hx1
    go_wp2_with fail
    go_ret
    exact ⟨⟨_, rfl, N1.out⟩, X1.out⟩
  · have q1 : ((l2.length : Int) == 0) = false := by
      have : l2.length ≠ 0 := fun e => hz (List.length_eq_zero_iff.1 e)
      simpa using this
    have e : dl l2 = l2 := if_neg hz
    rw [e]
    clear hz e
    go_enter Tryz.func139, Tryz.ntmps139
    go_wp2_with fail
    go_ret
    exact ⟨⟨_, rfl, HD.out.ext X0.out⟩, X0.out⟩
theorem prod_at {w : World} {va vb : Value} {la lb : List Int} (ha : RdI .u32 w va la) (hb : RdI .u32 w vb lb) (hla : Lim la) (hlb : Lim lb) (sa : la.length ≤ 4000) (sb : lb.length ≤ 4000) :
    Calls Tryz.prog 138 #[va, vb] w fun e w' => (∃ v, e = .returned v ∧ NewV w w' v (lim (nv la * nv lb))) ∧ Ext w w' := product_any va vb la lb w ha hb hla hlb (by omega) (by omega)
theorem prod_rep (a b : Rat) : rep (mkRat (sg ((rep a).neg != (rep b).neg) (nv (rep a).num * nv (rep b).num)) (nv (dl (rep a).den) * nv (dl (rep b).den))) = rep (a * b) := by
  have h := vq_prod (vod (rep a)) (vod (rep b))
  have ea : vq (vod (rep a)) = a := by rw [vod_vof, vq_vof, qv_rep]
  have eb : vq (vod (rep b)) = b := by rw [vod_vof, vq_vof, qv_rep]
  rw [ea, eb] at h
  rw [← h]; rfl
end Go.Proofs.YthkfkfbfblppeaaGreat
