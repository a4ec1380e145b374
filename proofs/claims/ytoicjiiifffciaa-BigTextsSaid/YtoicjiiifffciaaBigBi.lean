/- Walk of Bits of layer 5. Conditions: a slice of limbs. -/
import Derived.Test.YtoicjiiifffciaaBigAw
namespace Go.Proofs.Ytoicjiiifffciaa
set_option linter.unusedSimpArgs false
set_option linter.unusedVariables false
open Go.RowKit

/-- What Bits returns. -/
def bitsS (l : List Int) : Int × Int := if chkE l = 0 then ((blen (nv l) : Int), 0) else (0, chkE l)

set_option maxHeartbeats 1000000 in
theorem bits_any (v : Value) (l : List Int) (w : World) (h : RdI .u32 w v l) (hl : Lim l) :
    Calls Try.prog 37 #[v] w fun e w' => e = .returned (.tuple #[.int .i64 (bitsS l).1, .int .i64 (bitsS l).2]) ∧ Ext w w' := by
  have H := Lib.hid h; have HL := Lib.hid hl
  clear h hl
  by_cases hc : chkE l = 0
  · obtain ⟨g, z⟩ := chkE_0 hc
    have HC := Lib.hid hc; have HZ := Lib.hid z
    have hk := length_any v l
    obtain ⟨b, hb⟩ : ∃ b : Int, b = (blen (nv l) : Int) := ⟨_, rfl⟩
    have e1 : bitsS l = (b, 0) := by unfold bitsS; rw [if_pos hc, hb]
    rw [← hb] at hk
    have HK := Lib.hid hk; have E1 := Lib.hid e1
    clear hc z hk hb e1
    go_enter Try.func37, Try.ntmps37
    go_wp2_with fail
    refine (check1_any v l _ H.out).mono ?_
    rintro e w1 ⟨rfl, hx1⟩
    rw [HC.out]
    have X1 := Lib.hid hx1; clear hx1
    go_wp2_with fail
    refine (HK.out _ (H.out.ext X1.out) HL.out HZ.out (by omega)).mono ?_
    rintro e w2 ⟨rfl, hx2⟩
    have X2 := Lib.hid (X1.out.trans hx2); clear hx2
    go_wp2_with fail
    go_ret2
    exact ⟨by rw [E1.out]; first | rfl | exact ⟨rfl, rfl⟩ | simp, X2.out⟩
  · have e1 : bitsS l = (0, chkE l) := by unfold bitsS; rw [if_neg hc]
    have hk := check1_any v l
    obtain ⟨c, hcc⟩ : ∃ c, c = chkE l := ⟨_, rfl⟩
    rw [← hcc] at hc e1 hk
    have hcb : (c != 0) = true := by simpa using hc
    have HK := Lib.hid hk; have E1 := Lib.hid e1
    clear hc hcc hk e1
    go_enter Try.func37, Try.ntmps37
    go_wp2_with fail
    refine (HK.out _ H.out).mono ?_
    rintro e w1 ⟨rfl, hx1⟩
    have X1 := Lib.hid hx1; clear hx1
    go_wp2_with fail
    go_ret2
    exact ⟨by rw [E1.out]; first | rfl | exact ⟨rfl, rfl⟩ | simp, X1.out⟩

end Go.Proofs.Ytoicjiiifffciaa
