/- Walk of the reference's Common. Conditions: numbers without leading zeros, of bounded length. -/
import Derived.Test.YtebdmmlniohhgaaRefI
namespace Go.Proofs.Ytebdmmlniohhgaa
set_option linter.unusedSimpArgs false
set_option linter.unusedVariables false
open Go.RowKit

set_option maxHeartbeats 1000000 in
theorem common_any (va vb : Value) (la lb : List Int) (w : World) (ha : RdI .u32 w va la) (hb : RdI .u32 w vb lb) (hla : Lim la) (hlb : Lim lb) (za : NoZ la) (zb : NoZ lb) (hs : la.length ≤ 10000) (hs2 : lb.length ≤ 10000) :
    Calls Try.prog 97 #[va, vb] w fun e w' => (∃ v, e = .returned v ∧ NewV w w' v (lim (Nat.gcd (nv la) (nv lb)))) ∧ Ext w w' := by
  have HA := Lib.hid ha; have HB := Lib.hid hb
  obtain ⟨aa, ca, rfl, hca, hma, hra⟩ := rdU ha
  obtain ⟨ab, cb, rfl, hcb, hmb, hrb⟩ := rdU hb
  have HLA := Lib.hid hla; have HLB := Lib.hid hlb; have HZA := Lib.hid za; have HZB := Lib.hid zb
  clear ha hb hra hrb hla hlb za zb
  obtain ⟨G, hG⟩ : ∃ G, G = Nat.gcd (nv la) (nv lb) := ⟨_, rfl⟩
  rw [← hG]
  have HG := Lib.hid hG
  clear hG
  go_enter Try.func97, Try.ntmps97
  go_wp2_with fail
  go_loopg [0, 1, 5, 6] (nv lb) (fun g va vb _ _ wr => ∃ (x y : Nat), y ≤ g ∧ RdI .u32 wr va (lim x) ∧ RdI .u32 wr vb (lim y) ∧ (lim x).length ≤ 10000 ∧ (lim y).length ≤ 10000 ∧ Nat.gcd x y = G ∧ Ext w wr)
  case atStart =>
    refine ⟨nv la, nv lb, Nat.le_refl _, ?_, ?_, ?_, ?_, HG.out.symm, Ext.refl w⟩
    · rw [lim_nv HLA.out HZA.out]; exact HA.out
    · rw [lim_nv HLB.out HZB.out]; exact HB.out
    · rw [lim_nv HLA.out HZA.out]; exact hs
    · rw [lim_nv HLB.out HZB.out]; exact hs2
  case round =>
    obtain ⟨x, y, hy, hx1, hy1, hlx, hly, hg, hext⟩ := hrel
    have RX := Lib.hid hx1; have RY := Lib.hid hy1
    obtain ⟨ax, cx, rfl, _, _, _⟩ := rdU hx1
    obtain ⟨ay, cy, rfl, _, _, _⟩ := rdU hy1
    have X := Lib.hid hext; have GG := Lib.hid hg
    clear hx1 hy1 hext hg HA HB
    by_cases h0 : y = 0
    · subst h0
      rw [lim_zero]
      go_wp2_with (at_builtin; (refine wpList_append_nil rfl _ _ rfl rfl _ (lim x) rfl RX.out (by omega) ?_))
      intro v' w2 hnew hx2
      have N2 := Lib.hid hnew; have X2 := Lib.hid hx2
      clear hnew hx2
      go_wp2_with fail
      go_ret
      rw [← GG.out, Nat.gcd_zero_right]
      exact ⟨⟨_, rfl, N2.out.from X.out⟩, X.out.trans X2.out⟩
    · have hlp : (0 : Int) < ((lim y).length : Int) := by
        have : lim y ≠ [] := fun e => h0 (by rw [← nv_lim y, e]; rfl)
        have := List.length_pos_iff.2 this
        omega
      have hdv := refDivide_any _ _ (lim x) (lim y) _ RX.out RY.out (lim_lim _) (lim_lim _) (lim_noZ _) (lim_noZ _) hlx hly (by rw [nv_lim]; omega)
      rw [nv_lim, nv_lim] at hdv
      have HDV := Lib.hid hdv
      clear hdv
      go_wp2_with fail
      refine HDV.out.mono ?_
      rintro e w2 ⟨⟨v1, v2, rfl, n1, n2⟩, hx2⟩
      have N2 := Lib.hid n2.rd; have X2 := Lib.hid (X.out.trans hx2); have RY2 := Lib.hid (RY.out.ext hx2)
      clear n1 n2 hx2
      go_wp2_with fail
      go_roundg (x % y)
      case measure => have := Nat.mod_lt x (Nat.pos_of_ne_zero h0); omega
      case rel =>
        refine ⟨y, x % y, Nat.le_refl _, RY2.out, N2.out, hly, ?_, ?_, X2.out⟩
        · refine Nat.le_trans (lim_len_le.2 (Nat.lt_trans (Nat.mod_lt x (Nat.pos_of_ne_zero h0)) ?_)) hly
          exact lim_len_le.1 (Nat.le_refl _)
        · rw [← GG.out, Nat.gcd_comm x y, Nat.gcd_rec y x, Nat.gcd_comm]

end Go.Proofs.Ytebdmmlniohhgaa
