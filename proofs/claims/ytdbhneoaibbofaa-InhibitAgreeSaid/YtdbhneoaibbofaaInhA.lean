/- Walks of the small functions of layer 30 and of its reference: what each call returns. Conditions: none. -/
import Derived.Test.YtdbhneoaibbofaaBase
import Derived.Test.YtdbhneoaibbofaaSpec
namespace Go.Proofs.Ytdbhneoaibbofaa
set_option linter.unusedSimpArgs false
set_option linter.unusedVariables false
open Go.RowKit

set_option maxHeartbeats 400000 in
theorem wrong_any (n : Int) (w : World) :
    Calls Try.prog 35 #[.int .i64 n] w fun e w' => e = .returned (.bool (decide (n < -2000) || decide (60000 < n))) ∧ Ext w w' := by
  go_enter Try.func35, Try.ntmps35
  go_wp2
  all_goals (go_ret; refine ⟨ret_bool ?_, Ext.refl w⟩; simp <;> omega)

set_option maxHeartbeats 400000 in
theorem gap_any (e l : Int) (w : World) :
    Calls Try.prog 40 #[.agg #[.int .i64 e, .int .i64 l]] w fun en w' => en = .returned (.bool (gapB e l)) ∧ Ext w w' := by
  go_enter Try.func40, Try.ntmps40
  go_wp2
  all_goals (go_ret; refine ⟨ret_bool (Bool.eq_iff_iff.2 ?_), (Ext.refl w).alloc _⟩)
  all_goals (simp [gapB] <;> omega)

set_option maxHeartbeats 400000 in
theorem flag_any (e l : Int) (b : Bool) (z : Int) (w : World) :
    Calls Try.prog 38 #[.agg #[.int .i64 e, .int .i64 l], .bool b, .int .i64 z] w fun en w' => en = .returned (.bool (flg e l b z)) ∧ Ext w w' := by
  go_enter Try.func38, Try.ntmps38
  go_wp2
  all_goals (go_ret; refine ⟨ret_bool ?_, (Ext.refl w).alloc _⟩)
  all_goals first | exact (flg_lo ‹_›).symm | exact (flg_hi ‹_› ‹_›).symm | exact (flg_mid ‹_› ‹_›).symm

set_option maxHeartbeats 400000 in
theorem refCheck_any (de dl se sl ae al r : Int) (w : World) :
    Calls Try.prog 27 #[.agg #[.int .i64 de, .int .i64 dl, .int .i64 se, .int .i64 sl, .int .i64 ae, .int .i64 al, .int .i64 r]] w fun en w' => en = .returned (.int .i64 (chk de dl se sl ae al r)) ∧ Ext w w' := by
  go_enter Try.func27, Try.ntmps27
  go_wp2_with (go_at_call 40; refine (gap_any _ _ _).mono ?_; rintro e w1 ⟨rfl, hx1⟩; have hz1 := hx1.size; (try simp only [World.size_alloc, World.size_setCell, World.size_drew, size_drewN] at hz1); obtain ⟨hc1, hf1⟩ := hx1.old (B := w.heap.size) (by (try simp only [World.size_alloc, World.size_setCell, World.size_drew, size_drewN]); omega); have hs0 : w.heap.size < w1.heap.size := (by omega); have hl0 : w.heap.size ≤ w1.heap.size := (by omega); have hm0 : w.heap.size ≤ w1.heap.size + 1 := (by omega); obtain ⟨hcb0, hfb0⟩ := hx1.block_at (b := w.heap.size) (by (try simp only [World.size_alloc, World.size_setCell, World.size_drew, size_drewN]); omega))
  all_goals (go_ret; refine ⟨ret_int ?_, ?_⟩)
  all_goals first | exact (chk_1 ‹_›).symm | exact (chk_2 ‹_›).symm | exact (chk_3 ‹_›).symm | exact (chk_4 (by omega)).symm | exact (chk_5 (by omega)).symm | exact (chk_0 ‹_› ‹_› ‹_› (by omega) (by omega)).symm | (repeat (first | (with_reducible exact Ext.refl _) | (with_reducible assumption) | (with_reducible refine Ext.alloc ?_ _) | ((with_reducible refine Ext.setp ?_ ?_); focus (dsimp only; omega)) | (with_reducible refine Ext.drew ?_) | (with_reducible refine Ext.drewN ?_ _) | (with_reducible refine Ext.trans ?_ (by assumption))))

end Go.Proofs.Ytdbhneoaibbofaa
