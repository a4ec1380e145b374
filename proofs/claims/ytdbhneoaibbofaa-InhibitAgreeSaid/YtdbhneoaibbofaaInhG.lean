/- Walk of Weaken of layer 30's reference. Conditions: the sense is a byte. -/
import Derived.Test.YtdbhneoaibbofaaInhB
namespace Go.Proofs.Ytdbhneoaibbofaa
set_option linter.unusedSimpArgs false
set_option linter.unusedVariables false
open Go.RowKit

set_option maxHeartbeats 2000000 in
theorem refWeak_any (de dl se sl ae al r : Int) (bd bs ba : Bool) (s rt : Int) (kp : Bool) (w : World) (hs0 : 0 ≤ s) :
    Calls Try.prog 12 #[.agg #[.int .i64 de, .int .i64 dl, .int .i64 se, .int .i64 sl, .int .i64 ae, .int .i64 al, .int .i64 r], .agg #[.bool bd, .bool bs, .bool ba], .agg #[.int .u8 s, .int .i64 rt, .bool kp]] w fun en w' =>
      en = .returned (.tuple #[.agg #[.int .u8 (weak (chk de dl se sl ae al r) r bd bs ba s rt kp).1, .int .i64 (weak (chk de dl se sl ae al r) r bd bs ba s rt kp).2.1, .bool (weak (chk de dl se sl ae al r) r bd bs ba s rt kp).2.2.1], .int .i64 (weak (chk de dl se sl ae al r) r bd bs ba s rt kp).2.2.2]) ∧ Ext w w' := by
  go_enter Try.func12, Try.ntmps12
  go_wp2_with fail
  refine (refCheck_any _ _ _ _ _ _ _ _).mono ?_
  rintro e w1 ⟨rfl, hx1⟩; have hz1 := hx1.size; (try simp only [World.size_alloc, World.size_setCell, World.size_drew, size_drewN] at hz1); obtain ⟨hc1, hf1⟩ := hx1.old (B := w.heap.size) (by (try simp only [World.size_alloc, World.size_setCell, World.size_drew, size_drewN]); omega); have hs0 : w.heap.size < w1.heap.size := (by omega); have hl0 : w.heap.size ≤ w1.heap.size := (by omega); have hm0 : w.heap.size ≤ w1.heap.size + 1 := (by omega); obtain ⟨hcb0, hfb0⟩ := hx1.block_at (b := w.heap.size) (by (try simp only [World.size_alloc, World.size_setCell, World.size_drew, size_drewN]); omega); have hs1 : w.heap.size + 1 < w1.heap.size := (by omega); have hl1 : w.heap.size + 1 ≤ w1.heap.size := (by omega); have hm1 : w.heap.size + 1 ≤ w1.heap.size + 1 := (by omega); obtain ⟨hcb1, hfb1⟩ := hx1.block_at (b := w.heap.size + 1) (by (try simp only [World.size_alloc, World.size_setCell, World.size_drew, size_drewN]); omega); have hs2 : w.heap.size + 1 + 1 < w1.heap.size := (by omega); have hl2 : w.heap.size + 1 + 1 ≤ w1.heap.size := (by omega); have hm2 : w.heap.size + 1 + 1 ≤ w1.heap.size + 1 := (by omega); obtain ⟨hcb2, hfb2⟩ := hx1.block_at (b := w.heap.size + 1 + 1) (by (try simp only [World.size_alloc, World.size_setCell, World.size_drew, size_drewN]); omega); have hs3 : w.heap.size + 1 + 1 + 1 < w1.heap.size := (by omega); have hl3 : w.heap.size + 1 + 1 + 1 ≤ w1.heap.size := (by omega); have hm3 : w.heap.size + 1 + 1 + 1 ≤ w1.heap.size + 1 := (by omega); obtain ⟨hcb3, hfb3⟩ := hx1.block_at (b := w.heap.size + 1 + 1 + 1) (by (try simp only [World.size_alloc, World.size_setCell, World.size_drew, size_drewN]); omega)
  rcases chk_01 (de := de) (dl := dl) (se := se) (sl := sl) (ae := ae) (al := al) (r := r) with h | h
  · rw [h]
    have H := Lib.hid h; clear h
    go_wp2_with fail
    all_goals (refine bodyPost_ret ?_ rfl ⟨rfl, by (repeat (first | (with_reducible exact Ext.refl _) | (with_reducible assumption) | (with_reducible refine Ext.alloc ?_ _) | ((with_reducible refine Ext.setp ?_ ?_); focus (dsimp only; omega)) | (with_reducible refine Ext.drew ?_) | (with_reducible refine Ext.drewN ?_ _) | (with_reducible refine Ext.trans ?_ (by assumption))))⟩)
    all_goals first
      | (simp only [weak_k H.out (show 2 < s by omega), results, Try.results12]; go_simp; done)
      | (simp only [weak_r H.out (show s ≤ 2 by omega) (show rt < -100 ∨ 100 < rt by omega), results, Try.results12]; go_simp; done)
      | (simp only [weak_a H.out (show s ≤ 2 by omega) (show -100 ≤ rt ∧ rt ≤ 100 by omega) (show ba = true by assumption), results, Try.results12]; go_simp; done)
      | (simp only [weak_s H.out (show s ≤ 2 by omega) (show -100 ≤ rt ∧ rt ≤ 100 by omega) (show ba = false by first | assumption | exact Bool.eq_false_iff.2 (by assumption)) (show s ≠ 2 ∨ rt ≤ 0 by omega), results, Try.results12]; go_simp; done)
      | (simp only [weak_d H.out (show s = 2 by omega) (show 0 < rt ∧ rt ≤ 100 by omega) (show ba = false by first | assumption | exact Bool.eq_false_iff.2 (by assumption)) (show bd = true by assumption), results, Try.results12]; go_simp; done)
      | (simp only [weak_f H.out (show s = 2 by omega) (show 0 < rt ∧ rt ≤ 100 by omega) (show ba = false by first | assumption | exact Bool.eq_false_iff.2 (by assumption)) (show bd = false by first | assumption | exact Bool.eq_false_iff.2 (by assumption)) (show bs = true by assumption) (show r < rt by omega), results, Try.results12]; go_simp; done)
      | (simp only [weak_g H.out (show s = 2 by omega) (show 0 < rt ∧ rt ≤ 100 by omega) (show ba = false by first | assumption | exact Bool.eq_false_iff.2 (by assumption)) (show bd = false by first | assumption | exact Bool.eq_false_iff.2 (by assumption)) (.inl (show bs = false by first | assumption | exact Bool.eq_false_iff.2 (by assumption))), results, Try.results12]; go_simp; done)
      | (simp only [weak_g H.out (show s = 2 by omega) (show 0 < rt ∧ rt ≤ 100 by omega) (show ba = false by first | assumption | exact Bool.eq_false_iff.2 (by assumption)) (show bd = false by first | assumption | exact Bool.eq_false_iff.2 (by assumption)) (.inr (show rt ≤ r by omega)), results, Try.results12]; go_simp; done)
  · rw [h]
    have H := Lib.hid h; clear h
    go_wp2_with fail
    refine bodyPost_ret ?_ rfl ⟨rfl, ?_⟩
    · (simp only [weak_c H.out, results, Try.results12]; go_simp)
    · (repeat (first | (with_reducible exact Ext.refl _) | (with_reducible assumption) | (with_reducible refine Ext.alloc ?_ _) | ((with_reducible refine Ext.setp ?_ ?_); focus (dsimp only; omega)) | (with_reducible refine Ext.drew ?_) | (with_reducible refine Ext.drewN ?_ _) | (with_reducible refine Ext.trans ?_ (by assumption))))

end Go.Proofs.Ytdbhneoaibbofaa
