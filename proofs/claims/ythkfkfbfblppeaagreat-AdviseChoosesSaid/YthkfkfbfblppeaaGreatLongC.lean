/- Walk of Long of layer 28's laws (written by mkmask28.py). Conditions: the arguments read as slices. -/
import Derived.Test.YthkfkfbfblppeaaGreatWide
import Derived.Test.YthkfkfbfblppeaaGreatBoolS
import Derived.Test.YthkfkfbfblppeaaGreatAdvC
namespace Go.Proofs.YthkfkfbfblppeaaGreat
set_option linter.unusedSimpArgs false
set_option linter.unusedVariables false
open Go.RowKit

def longB (l : List Bnd) (costs : List RR) (mask : List Bool) : Bool := decide (20 < l.length) || decide (20 < mask.length) || wideB costs
set_option maxHeartbeats 2000000 in
theorem longC_any (vl vc vm : Value) (l : List Bnd) (now age rev : Int) (costs : List RR) (mask : List Bool) (lr lh : Int) (w : World) (hl : RdBnd w vl l) (hc : RdRs w vc costs) (hm : Rd w vm (mask.map Value.bool)) :
    Calls Tryz.prog 29 #[.agg #[vl, .int .i64 now, .int .i64 age, .int .i64 rev, vc, vm, .int .i64 lr, .int .i64 lh]] w fun e w' => e = .returned (.bool (longB l costs mask)) ∧ Ext w w' := by
  have HC := Lib.hid hc
  have hwd := fun W (x : Ext w W) => wide_any vc costs W (hc.ext x)
  obtain ⟨al, cl, rfl, hlc, hlm1, -⟩ := hl.get
  obtain ⟨ac, cc, rfl, hcc, hcm, -⟩ := hc.get
  obtain ⟨am, cm, rfl, hmc, hmm, -⟩ := rdB_get hm
  obtain ⟨wb, hwb⟩ : ∃ x, x = wideB costs := ⟨_, rfl⟩
  rw [← hwb] at hwd
  have hlo : longB l costs mask = (decide (20 < l.length) || decide (20 < mask.length) || wb) := by rw [hwb]; rfl
  have HWD := Lib.hid hwd; have HLO := Lib.hid hlo
  clear hl hc hm hwd hwb hlo
  have bb0 := (Blk.new w #[.slice al l.length cl, .int .i64 now, .int .i64 age, .int .i64 rev, .slice ac costs.length cc, .slice am mask.length cm, .int .i64 lr, .int .i64 lh] 53)
  have x0 : Ext w (w.alloc (.cells #[.slice al l.length cl, .int .i64 now, .int .i64 age, .int .i64 rev, .slice ac costs.length cc, .slice am mask.length cm, .int .i64 lr, .int .i64 lh] 53)) := ((Ext.refl w).alloc _)
  have A0 := Lib.hid bb0; have X := Lib.hid x0
  clear x0 bb0
  have qA0 := A0.out.cell; have fA0 := A0.out.free; have lA0 := A0.out.lt
  by_cases h1 : 20 < l.length
  · have q1 : (20 : Int) < (l.length : Int) := by omega
    have EE := Lib.hid (show longB l costs mask = true by rw [HLO.out, decide_eq_true h1]; rfl)
    clear h1
    go_enter Tryz.func29, Tryz.ntmps29
    go_wp2_with fail
    go_ret
    exact ⟨ret_bool EE.out.symm, X.out⟩
  · have q1 : ¬ (20 : Int) < (l.length : Int) := by omega
    by_cases h2 : 20 < mask.length
    · have q2 : (20 : Int) < (mask.length : Int) := by omega
      have EE := Lib.hid (show longB l costs mask = true by rw [HLO.out, decide_eq_true h2, Bool.or_true]; rfl)
      clear h1 h2
      go_enter Tryz.func29, Tryz.ntmps29
      go_wp2_with fail
      go_ret
      exact ⟨ret_bool EE.out.symm, X.out⟩
    · have q2 : ¬ (20 : Int) < (mask.length : Int) := by omega
      have EE := Lib.hid (show longB l costs mask = wb by rw [HLO.out, decide_eq_false h1, decide_eq_false h2]; rfl)
      clear h1 h2
      go_enter Tryz.func29, Tryz.ntmps29
      go_wp2_with fail
      refine (HWD.out _ X.out).mono ?_
      rintro e w1 ⟨rfl, rfl⟩
      go_wp2_with fail
      go_ret
      exact ⟨ret_bool EE.out.symm, X.out⟩
theorem longB_0 {l : List Bnd} {costs : List RR} {mask : List Bool} (h : longB l costs mask = false) : l.length ≤ 20 ∧ mask.length ≤ 20 ∧ wideB costs = false := by
  unfold longB at h
  rw [Bool.or_eq_false_iff, Bool.or_eq_false_iff] at h
  exact ⟨by simpa using h.1.1, by simpa using h.1.2, h.2⟩

end Go.Proofs.YthkfkfbfblppeaaGreat
