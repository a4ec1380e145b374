/- Walks of Update of layer 30's reference. Conditions: none. -/
import Derived.Test.YtdbhneoaibbofaaInhA
import Derived.Test.YtdbhneoaibbofaaReg
namespace Go.Proofs.Ytdbhneoaibbofaa
set_option linter.unusedSimpArgs false
set_option linter.unusedVariables false
open Go.RowKit

set_option maxHeartbeats 400000 in
theorem refUpdate_any (de dl se sl ae al r : Int) (bd bs ba : Bool) (z : Int) (w : World) :
    Calls Try.prog 25 #[.agg #[.int .i64 de, .int .i64 dl, .int .i64 se, .int .i64 sl, .int .i64 ae, .int .i64 al, .int .i64 r], .agg #[.bool bd, .bool bs, .bool ba], .int .i64 z] w fun en w' =>
      en = .returned (.tuple #[.agg #[.bool (upd de dl se sl ae al r bd bs ba z).1, .bool (upd de dl se sl ae al r bd bs ba z).2.1, .bool (upd de dl se sl ae al r bd bs ba z).2.2.1], .int .i64 (upd de dl se sl ae al r bd bs ba z).2.2.2]) ∧ Ext w w' := by
  go_enter Try.func25, Try.ntmps25
  go_wp2_with fail
  refine (refCheck_any _ _ _ _ _ _ _ _).mono ?_
  rintro e w1 ⟨rfl, hx1⟩; have hz1 := hx1.size; (try simp only [World.size_alloc, World.size_setCell, World.size_drew, size_drewN] at hz1); obtain ⟨hc1, hf1⟩ := hx1.old (B := w.heap.size) (by (try simp only [World.size_alloc, World.size_setCell, World.size_drew, size_drewN]); omega); have hs0 : w.heap.size < w1.heap.size := (by omega); have hl0 : w.heap.size ≤ w1.heap.size := (by omega); have hm0 : w.heap.size ≤ w1.heap.size + 1 := (by omega); obtain ⟨hcb0, hfb0⟩ := hx1.block_at (b := w.heap.size) (by (try simp only [World.size_alloc, World.size_setCell, World.size_drew, size_drewN]); omega); have hs1 : w.heap.size + 1 < w1.heap.size := (by omega); have hl1 : w.heap.size + 1 ≤ w1.heap.size := (by omega); have hm1 : w.heap.size + 1 ≤ w1.heap.size + 1 := (by omega); obtain ⟨hcb1, hfb1⟩ := hx1.block_at (b := w.heap.size + 1) (by (try simp only [World.size_alloc, World.size_setCell, World.size_drew, size_drewN]); omega); have hs2 : w.heap.size + 1 + 1 < w1.heap.size := (by omega); have hl2 : w.heap.size + 1 + 1 ≤ w1.heap.size := (by omega); have hm2 : w.heap.size + 1 + 1 ≤ w1.heap.size + 1 := (by omega); obtain ⟨hcb2, hfb2⟩ := hx1.block_at (b := w.heap.size + 1 + 1) (by (try simp only [World.size_alloc, World.size_setCell, World.size_drew, size_drewN]); omega)
  rcases chk_01 (de := de) (dl := dl) (se := se) (sl := sl) (ae := ae) (al := al) (r := r) with h | h
  · rw [h]
    have H := Lib.hid h; clear h
    go_wp2_with fail
    all_goals first
      | (refine bodyPost_ret ?_ rfl ⟨rfl, ?_⟩
         · (simp only [upd_2 H.out (show z < -2000 ∨ 60000 < z by omega), results, Try.results25]; go_simp)
         · (repeat (first | (with_reducible exact Ext.refl _) | (with_reducible assumption) | (with_reducible refine Ext.alloc ?_ _) | ((with_reducible refine Ext.setp ?_ ?_); focus (dsimp only; omega)) | (with_reducible refine Ext.drew ?_) | (with_reducible refine Ext.drewN ?_ _) | (with_reducible refine Ext.trans ?_ (by assumption)))))
      | ((refine wp_region_quietE_tail 19 (by kernel_rfl) (by kernel_rfl) ?_; simp only [List.take_succ_cons, List.take_zero, List.drop_succ_cons, List.drop_zero]; (repeat (go_big_quiet_step ((go_at_call 38; exact quietE (flag_any _ _ _ _ _))))); refine wpQuiet_nil ?_; rintro w1 ⟨⟨_, hx1⟩, rfl⟩; (try dsimp only); have hz1 := hx1.size; (try simp only [World.size_alloc, World.size_setCell, World.size_drew, size_drewN] at hz1); obtain ⟨hc1, hf1⟩ := hx1.old (B := w.heap.size) (by (try simp only [World.size_alloc, World.size_setCell, World.size_drew, size_drewN]); omega); have hs0 : w.heap.size < w1.heap.size := (by omega); have hl0 : w.heap.size ≤ w1.heap.size := (by omega); have hm0 : w.heap.size ≤ w1.heap.size + 1 := (by omega); obtain ⟨hcb0, hfb0⟩ := hx1.block_at (b := w.heap.size) (by (try simp only [World.size_alloc, World.size_setCell, World.size_drew, size_drewN]); omega); have hs1 : w.heap.size + 1 < w1.heap.size := (by omega); have hl1 : w.heap.size + 1 ≤ w1.heap.size := (by omega); have hm1 : w.heap.size + 1 ≤ w1.heap.size + 1 := (by omega); obtain ⟨hcb1, hfb1⟩ := hx1.block_at (b := w.heap.size + 1) (by (try simp only [World.size_alloc, World.size_setCell, World.size_drew, size_drewN]); omega); have hs2 : w.heap.size + 1 + 1 < w1.heap.size := (by omega); have hl2 : w.heap.size + 1 + 1 ≤ w1.heap.size := (by omega); have hm2 : w.heap.size + 1 + 1 ≤ w1.heap.size + 1 := (by omega); obtain ⟨hcb2, hfb2⟩ := hx1.block_at (b := w.heap.size + 1 + 1) (by (try simp only [World.size_alloc, World.size_setCell, World.size_drew, size_drewN]); omega))
         go_wp2
         refine bodyPost_ret ?_ rfl ⟨rfl, ?_⟩
         · (simp only [upd_0 H.out (show -2000 ≤ z by omega) (show z ≤ 60000 by omega), results, Try.results25]; go_simp)
         · (repeat (first | (with_reducible exact Ext.refl _) | (with_reducible assumption) | (with_reducible refine Ext.alloc ?_ _) | ((with_reducible refine Ext.setp ?_ ?_); focus (dsimp only; omega)) | (with_reducible refine Ext.drew ?_) | (with_reducible refine Ext.drewN ?_ _) | (with_reducible refine Ext.trans ?_ (by assumption)))))
  · rw [h]
    have H := Lib.hid h; clear h
    go_wp2_with fail
    refine bodyPost_ret ?_ rfl ⟨rfl, ?_⟩
    · (simp only [upd_1 H.out, results, Try.results25]; go_simp)
    · (repeat (first | (with_reducible exact Ext.refl _) | (with_reducible assumption) | (with_reducible refine Ext.alloc ?_ _) | ((with_reducible refine Ext.setp ?_ ?_); focus (dsimp only; omega)) | (with_reducible refine Ext.drew ?_) | (with_reducible refine Ext.drewN ?_ _) | (with_reducible refine Ext.trans ?_ (by assumption))))

end Go.Proofs.Ytdbhneoaibbofaa
