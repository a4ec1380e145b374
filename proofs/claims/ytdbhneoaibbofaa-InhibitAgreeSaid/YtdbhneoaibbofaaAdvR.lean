/- Walk of the reference's Check of advisories. Conditions: the argument reads as a slice of advisories. -/
import Derived.Test.YtdbhneoaibbofaaAdv
namespace Go.Proofs.Ytdbhneoaibbofaa
set_option linter.unusedSimpArgs false
set_option linter.unusedVariables false
open Go.RowKit

set_option maxHeartbeats 2000000 in
theorem refAchk_any (v : Value) (l : List Bnd) (w : World) (h : RdBnd w v l) :
    Calls Try.prog 32 #[v] w fun en w' => en = .returned (.int .i64 (achk l)) ∧ Ext w w' := by
  obtain ⟨a, cap, rfl, hc, hm, hr⟩ := h.get
  clear h
  have HR := Lib.hid hr; clear hr
  by_cases h0 : l.length = 0
  · have h0' : ((l.length : Int) == 0) = true := by simp [h0]
    have hA : achk l = 3 := by simp [achk, h0]
    go_enter Try.func32, Try.ntmps32
    go_wp2
    go_ret
    exact ⟨ret_int hA.symm, Ext.refl _⟩
  · have h0' : ((l.length : Int) == 0) = false := by simp; intro h; simp [h] at h0
    have h0n : 0 < l.length := by omega
    by_cases h6 : 6 < l.length
    · have hA : achk l = 4 := by unfold achk; rw [if_neg h0, if_pos h6]
      have HA := Lib.hid hA; clear hA
      go_enter Try.func32, Try.ntmps32
      go_wp2
      go_ret
      exact ⟨ret_int HA.out.symm, Ext.refl _⟩
    · have H0 := Lib.hid h0; clear h0
      have h6' : decide (6 < (l.length : Int)) = false := by simp; omega
      go_enter Try.func32, Try.ntmps32
      go_wp2
      go_loopw [3] (fun i wr => ∃ k : Nat, k + 1 ≤ l.length ∧ i = .int .i64 (k + 1 : Nat) ∧ okTo l k ∧ Ext w wr) (fun i _ => l.length - (intOf i).toNat)
      case atStart => exact ⟨0, by omega, rfl, (fun j hj => by omega), Ext.refl w⟩
      case round =>
        obtain ⟨k, hk, rfl, hok, hext⟩ := hrel
        have HK := Lib.hid hok; clear hok
        by_cases hlt : k + 1 < l.length
        · obtain ⟨x, hx⟩ : ∃ x, l[k + 1]? = some x := ⟨l[k + 1], by rw [List.getElem?_eq_getElem]⟩
          obtain ⟨b, off, rfl, hb, hx1, hx2, hx3⟩ := HR.out (k + 1) x hx
          have HX := Lib.hid hx; clear hx
          have hy1 := (hext.cell (p := ⟨b, off + (k + 1) * 3, none⟩) hb).trans hx1
          have hy2 := (hext.cell (p := ⟨b, off + (k + 1) * 3 + 1, none⟩) hb).trans hx2
          have hy3 := (hext.cell (p := ⟨b, off + (k + 1) * 3 + 2, none⟩) hb).trans hx3
          clear hx1 hx2 hx3
          have hz := hext.size
          have hbr : b < wr.heap.size := by omega
          have HE := Lib.hid hext; clear hext
          have q1 : (0 : Int) ≤ (k : Int) + 1 := by omega
          have q2 : (k : Int) + 1 < (l.length : Int) := by omega
          obtain ⟨s, lo, hi⟩ := x
          dsimp only at hy1 hy2 hy3
          by_cases hs1 : s = 1
          · subst hs1
            go_wp2_with fail
            (refine wp_region_quietE (by kernel_rfl) (by kernel_rfl) ?_; (repeat (any_goals (first | go_big_quiet_step ((fail)) | (refine wpQuiet_step (fun K hK => ?_); go_simp; refine hK _ ?_; clear hK K) | (refine wpQuiet_step (fun K hK => ?_); go_simp; split <;> first | (exfalso; omega) | (refine hK _ ?_; clear hK K))))); all_goals (refine wpQuiet_nil ?_; rintro w1 ⟨⟨_, hx1⟩, rfl⟩; (try dsimp only); have hz1 := hx1.size; (try simp only [World.size_alloc, World.size_setCell, World.size_drew, size_drewN] at hz1); obtain ⟨hc1, hf1⟩ := hx1.old (B := w.heap.size) (by (try simp only [World.size_alloc, World.size_setCell, World.size_drew, size_drewN]); omega)))
            all_goals go_wp2
            all_goals first
              | (go_ret
                 have e := bnd1_arg (x := (1, lo, hi)) (by dsimp only; omega) (by dsimp only; omega)
                 refine ⟨ret_int ?_, by have hE := HE.out; (repeat (first | (with_reducible exact Ext.refl _) | (with_reducible assumption) | (with_reducible refine Ext.alloc ?_ _) | ((with_reducible refine Ext.setp ?_ ?_); focus (dsimp only; omega)) | (with_reducible refine Ext.drew ?_) | (with_reducible refine Ext.drewN ?_ _) | (with_reducible refine Ext.trans ?_ (by assumption))))⟩
                 rw [achk_hit (by omega) HX.out HK.out (by rw [e]; decide), e])
              | (go_roundw
                 case rel => exact ⟨k + 1, by omega, by go_num, okTo_succ HK.out HX.out (bnd1_ok (by dsimp only; omega) (by dsimp only; omega)), by have hE := HE.out; (repeat (first | (with_reducible exact Ext.refl _) | (with_reducible assumption) | (with_reducible refine Ext.alloc ?_ _) | ((with_reducible refine Ext.setp ?_ ?_); focus (dsimp only; omega)) | (with_reducible refine Ext.drew ?_) | (with_reducible refine Ext.drewN ?_ _) | (with_reducible refine Ext.trans ?_ (by assumption))))⟩
                 case measure => simp [intOf]; omega)
          by_cases hs2 : s = 2
          · subst hs2
            go_wp2_with fail
            (refine wp_region_quietE (by kernel_rfl) (by kernel_rfl) ?_; (repeat (any_goals (first | go_big_quiet_step ((fail)) | (refine wpQuiet_step (fun K hK => ?_); go_simp; refine hK _ ?_; clear hK K) | (refine wpQuiet_step (fun K hK => ?_); go_simp; split <;> first | (exfalso; omega) | (refine hK _ ?_; clear hK K))))); all_goals (refine wpQuiet_nil ?_; rintro w1 ⟨⟨_, hx1⟩, rfl⟩; (try dsimp only); have hz1 := hx1.size; (try simp only [World.size_alloc, World.size_setCell, World.size_drew, size_drewN] at hz1); obtain ⟨hc1, hf1⟩ := hx1.old (B := w.heap.size) (by (try simp only [World.size_alloc, World.size_setCell, World.size_drew, size_drewN]); omega)))
            all_goals go_wp2
            all_goals first
              | (go_ret
                 have e := bnd1_arg (x := (2, lo, hi)) (by dsimp only; omega) (by dsimp only; omega)
                 refine ⟨ret_int ?_, by have hE := HE.out; (repeat (first | (with_reducible exact Ext.refl _) | (with_reducible assumption) | (with_reducible refine Ext.alloc ?_ _) | ((with_reducible refine Ext.setp ?_ ?_); focus (dsimp only; omega)) | (with_reducible refine Ext.drew ?_) | (with_reducible refine Ext.drewN ?_ _) | (with_reducible refine Ext.trans ?_ (by assumption))))⟩
                 rw [achk_hit (by omega) HX.out HK.out (by rw [e]; decide), e])
              | (go_roundw
                 case rel => exact ⟨k + 1, by omega, by go_num, okTo_succ HK.out HX.out (bnd1_ok (by dsimp only; omega) (by dsimp only; omega)), by have hE := HE.out; (repeat (first | (with_reducible exact Ext.refl _) | (with_reducible assumption) | (with_reducible refine Ext.alloc ?_ _) | ((with_reducible refine Ext.setp ?_ ?_); focus (dsimp only; omega)) | (with_reducible refine Ext.drew ?_) | (with_reducible refine Ext.drewN ?_ _) | (with_reducible refine Ext.trans ?_ (by assumption))))⟩
                 case measure => simp [intOf]; omega)
          have t1 : (s != 1) = true := by simpa using hs1
          have t2 : (s != 2) = true := by simpa using hs2
          have S1 := Lib.hid hs1; have S2 := Lib.hid hs2
          clear hs1 hs2
          go_wp2
          go_ret
          refine ⟨ret_int ?_, HE.out⟩
          have e := bnd1_kind (x := (s, lo, hi)) S1.out S2.out
          rw [achk_hit (by omega) HX.out HK.out (by rw [e]; decide), e]
        · go_wp2
          go_ret
          exact ⟨ret_int (achk_ok h0n (by omega) (by rwa [show l.length - 1 = k by omega])).symm, hext⟩

end Go.Proofs.Ytdbhneoaibbofaa
