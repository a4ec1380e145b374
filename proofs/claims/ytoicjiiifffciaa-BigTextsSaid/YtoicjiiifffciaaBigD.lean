/- Walks of bits.Add32, Sub32. Conditions: none. -/
import Derived.Test.YtoicjiiifffciaaBigC
import Derived.Test.YtoicjiiifffciaaBits
namespace Go.Proofs.Ytoicjiiifffciaa
set_option linter.unusedSimpArgs false
set_option linter.unusedVariables false
open Go.RowKit

theorem add32_any (x y c : Int) (w : World) (hx : 0 ≤ x ∧ x < 4294967296) (hy : 0 ≤ y ∧ y < 4294967296) (hc : 0 ≤ c ∧ c ≤ 1) :
    Calls Try.prog 74 #[.int .u32 x, .int .u32 y, .int .u32 c] w fun e w' => e = .returned (.tuple #[.int .u32 ((x + y + c) % 4294967296), .int .u32 ((x + y + c) / 4294967296)]) ∧ Ext w w' := by
  obtain ⟨x0, x1⟩ := hx; obtain ⟨y0, y1⟩ := hy; obtain ⟨c0, c1⟩ := hc
  go_enter Try.func74, Try.ntmps74
  go_wp2
  go_ret2
  exact ⟨rfl, by (repeat (first | (with_reducible exact Ext.refl _) | (with_reducible assumption) | (with_reducible refine Ext.alloc ?_ _) | ((with_reducible refine Ext.setp ?_ ?_); focus (dsimp only; omega)) | (with_reducible refine Ext.drew ?_) | (with_reducible refine Ext.drewN ?_ _) | (with_reducible refine Ext.trans ?_ (by assumption))))⟩

theorem sub32_any (x y c : Int) (w : World) (hx : 0 ≤ x ∧ x < 4294967296) (hy : 0 ≤ y ∧ y < 4294967296) (hc : 0 ≤ c ∧ c ≤ 1) :
    Calls Try.prog 71 #[.int .u32 x, .int .u32 y, .int .u32 c] w fun e w' => e = .returned (.tuple #[.int .u32 ((x - y - c) % 4294967296), .int .u32 (brw x y c)]) ∧ Ext w w' := by
  have hb := Lib.hid (sub32_bits x y c hx hy hc)
  obtain ⟨x0, x1⟩ := hx; obtain ⟨y0, y1⟩ := hy; obtain ⟨c0, c1⟩ := hc
  go_enter Try.func71, Try.ntmps71
  go_wp2
  · go_ret2
    exact ⟨by rw [← hb.out]; rfl, by (repeat (first | (with_reducible exact Ext.refl _) | (with_reducible assumption) | (with_reducible refine Ext.alloc ?_ _) | ((with_reducible refine Ext.setp ?_ ?_); focus (dsimp only; omega)) | (with_reducible refine Ext.drew ?_) | (with_reducible refine Ext.drewN ?_ _) | (with_reducible refine Ext.trans ?_ (by assumption))))⟩
end Go.Proofs.Ytoicjiiifffciaa
