/- The law AdviseLeastMatches answers true (written by mkleastm.py). Conditions: the arguments read as slices. -/
import Derived.Test.YteglolgdjbmklaaAdvAw
import Derived.Test.YteglolgdjbmklaaWide
import Derived.Test.YteglolgdjbmklaaArgR
namespace Go.Proofs.Yteglolgdjbmklaa
set_option linter.unusedSimpArgs false
set_option linter.unusedVariables false
open Go.RowKit

set_option maxHeartbeats 4000000 in
theorem leastM_any (vc va : Value) (costs : List RR) (all : List Bool) (w : World) (hc : RdRs w vc costs) (ha : Rd w va (all.map Value.bool)) (hl : LimRs costs) :
    Calls Try.prog 4 #[vc, va] w fun e w' => e = .returned (.bool true) ∧ Ext w w' := by
  have HC := Lib.hid hc; have HA := Lib.hid ha; have HL := Lib.hid hl
  have hwd := fun W (x : Ext w W) => wide_any vc costs W (hc.ext x)
  obtain ⟨ac, cc, rfl, -⟩ := hc.get
  obtain ⟨aa, ca, rfl, -⟩ := rdB_get ha
  obtain ⟨wb, hwb⟩ : ∃ x, x = wideB costs := ⟨_, rfl⟩
  rw [← hwb] at hwd
  have HWD := Lib.hid hwd; have HWB := Lib.hid hwb
  have X := Lib.hid (Ext.refl w)
  clear hc ha hl hwd hwb
  cases wb
  · obtain ⟨hl1, hl2⟩ := wideB_0 HWB.out.symm
    have H2 := Lib.hid hl2
    clear hl2
    by_cases hlen : 20 < all.length
    · have q1 : (20 : Int) < (all.length : Int) := by omega
      clear hlen
      go_enter Try.func4, Try.ntmps4
      go_wp2_with fail
      refine (HWD.out _ X.out).mono ?_
      rintro e w1 ⟨rfl, rfl⟩
      go_wp2_with fail
      refine (awake28_any _).mono ?_
      rintro e w1 ⟨rfl, hx⟩
      have HC := Lib.hid (HC.out.ext hx); have HA := Lib.hid (HA.out.ext hx); have X := Lib.hid (X.out.trans hx)
      clear hx
      go_wp2_with fail
      go_ret
      exact ⟨rfl, X.out⟩
    · have q1 : ¬ (20 : Int) < (all.length : Int) := by omega
      clear hlen
      have hla := fun W v1 v2 h1 h2 => least_any v1 v2 costs all W h1 h2 HL.out
      have hlb := fun W v1 v2 h1 h2 => refLeast_any v1 v2 costs all W h1 h2 HL.out
      obtain ⟨ls, hls⟩ : ∃ x, x = leastS costs all := ⟨_, rfl⟩
      rw [← hls] at hla hlb
      obtain ⟨l1, l2⟩ := ls
      dsimp only at hla hlb
      have LA := Lib.hid hla; have LB := Lib.hid hlb
      clear hla hlb hls
      go_enter Try.func4, Try.ntmps4
      go_wp2_with fail
      refine (HWD.out _ X.out).mono ?_
      rintro e w1 ⟨rfl, rfl⟩
      go_wp2_with fail
      refine (copyRats_any _ costs _ HC.out (by omega) (fun i hi => ⟨Nat.le_trans (H2.out i hi).1 (by decide), Nat.le_trans (H2.out i hi).2 (by decide)⟩)).mono ?_
      rintro e w1 ⟨⟨vi, rfl, hown⟩, hx⟩
      have HC := Lib.hid (HC.out.ext hx); have HA := Lib.hid (HA.out.ext hx); have X := Lib.hid (X.out.trans hx)
      have RI := Lib.hid (OwRs.rd hown)
      obtain ⟨ai, ci, rfl, -⟩ := RI.out.get
      clear hown hx
      go_wp2_with fail
      refine (copyBools_any _ all _ HA.out (by omega)).mono ?_
      rintro e w2 ⟨⟨vb, rfl, hown⟩, hx⟩
      have HC := Lib.hid (HC.out.ext hx); have HA := Lib.hid (HA.out.ext hx); have RI := Lib.hid (RI.out.ext hx); have X := Lib.hid (X.out.trans hx)
      have RB := Lib.hid (OwBo.rd hown)
      obtain ⟨ab, cb, rfl, -⟩ := rdB_get RB.out
      clear hown hx
      go_wp2_with fail
      refine (LA.out _ _ _ RI.out RB.out).mono ?_
      rintro e w3 ⟨rfl, hx⟩
      have HC := Lib.hid (HC.out.ext hx); have HA := Lib.hid (HA.out.ext hx); have RI := Lib.hid (RI.out.ext hx); have RB := Lib.hid (RB.out.ext hx); have X := Lib.hid (X.out.trans hx)
      clear hx
      go_wp2_with fail
      refine (LB.out _ _ _ HC.out HA.out).mono ?_
      rintro e w4 ⟨rfl, hx⟩
      have HC := Lib.hid (HC.out.ext hx); have HA := Lib.hid (HA.out.ext hx); have RI := Lib.hid (RI.out.ext hx); have RB := Lib.hid (RB.out.ext hx); have X := Lib.hid (X.out.trans hx)
      clear hx
      go_wp2_with fail
      have heq := equalRats_any _ _ costs costs _ RI.out HC.out
      rw [decide_eq_true (rfl : costs = costs)] at heq
      refine (heq).mono ?_
      rintro e w5 ⟨rfl, hx⟩
      have HC := Lib.hid (HC.out.ext hx); have HA := Lib.hid (HA.out.ext hx); have RI := Lib.hid (RI.out.ext hx); have RB := Lib.hid (RB.out.ext hx); have X := Lib.hid (X.out.trans hx)
      clear hx heq
      go_wp2_with fail
      have heq := equalBools_any _ _ all all _ RB.out HA.out
      rw [decide_eq_true (rfl : all = all)] at heq
      refine (heq).mono ?_
      rintro e w6 ⟨rfl, hx⟩
      have HC := Lib.hid (HC.out.ext hx); have HA := Lib.hid (HA.out.ext hx); have RI := Lib.hid (RI.out.ext hx); have RB := Lib.hid (RB.out.ext hx); have X := Lib.hid (X.out.trans hx)
      clear hx heq
      go_wp2_with fail
      refine (awake28_any _).mono ?_
      rintro e w7 ⟨rfl, hx⟩
      have HC := Lib.hid (HC.out.ext hx); have HA := Lib.hid (HA.out.ext hx); have RI := Lib.hid (RI.out.ext hx); have RB := Lib.hid (RB.out.ext hx); have X := Lib.hid (X.out.trans hx)
      clear hx
      go_wp2_with fail
      go_ret
      exact ⟨rfl, X.out⟩
  · go_enter Try.func4, Try.ntmps4
    go_wp2_with fail
    refine (HWD.out _ X.out).mono ?_
    rintro e w1 ⟨rfl, rfl⟩
    go_wp2_with fail
    refine (awake28_any _).mono ?_
    rintro e w1 ⟨rfl, hx⟩
    have HC := Lib.hid (HC.out.ext hx); have HA := Lib.hid (HA.out.ext hx); have X := Lib.hid (X.out.trans hx)
    clear hx
    go_wp2_with fail
    go_ret
    exact ⟨rfl, X.out⟩

end Go.Proofs.Yteglolgdjbmklaa
