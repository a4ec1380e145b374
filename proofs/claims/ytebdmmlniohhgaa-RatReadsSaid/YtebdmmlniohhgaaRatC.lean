/- Walks of Check, natural, From, Of of layer 6. Conditions: as each states. -/
import Derived.Test.YtebdmmlniohhgaaRatB
namespace Go.Proofs.Ytebdmmlniohhgaa
set_option linter.unusedSimpArgs false
set_option linter.unusedVariables false
open Go.RowKit

theorem noZ_of_chkE {l : List Int} (h : chkE l = 0) : NoZ l := (chkE_0 h).2

set_option maxHeartbeats 2000000 in
theorem checkR_any (v : Value) (r : RR) (w : World) (h : RdR w v r) (hl : LimR r) :
    Calls Try.prog 23 #[v] w fun e w' => e = .returned (.int .i64 (chkR r)) ∧ Ext w w' := by
  obtain ⟨vn, vd, rfl, hn, hd⟩ := h
  obtain ⟨an, cn, rfl⟩ := rdU_shape hn
  obtain ⟨ad, cd, rfl⟩ := rdU_shape hd
  obtain ⟨b, ln, ld⟩ := r
  obtain ⟨hl1, hl2⟩ := hl
  dsimp only at hl1 hl2 hn hd ⊢
  have HN := Lib.hid hn; have HD := Lib.hid hd; have L1 := Lib.hid hl1; have L2 := Lib.hid hl2
  clear hn hd hl1 hl2
  have hb0 := Blk.new w #[.bool b, .slice an ln.length cn, .slice ad ld.length cd] 26
  have HB := Lib.hid hb0
  have HX := Lib.hid ((Ext.refl w).alloc (.cells #[.bool b, .slice an ln.length cn, .slice ad ld.length cd] 26))
  clear hb0
  by_cases h1 : 128 < ln.length ∨ 128 < ld.length
  · have e : chkR ⟨b, ln, ld⟩ = 4 := by unfold chkR; rw [if_pos h1]
    have E := Lib.hid e
    clear e
    by_cases h2 : 128 < ln.length
    · have q1 : (128 : Int) < (ln.length : Int) := by omega
      go_enter Try.func23, Try.ntmps23
      go_wp2_with fail
      go_ret
      exact ⟨by rw [E.out]; rfl, by (repeat (first | (with_reducible exact Ext.refl _) | (with_reducible assumption) | (with_reducible refine Ext.alloc ?_ _) | ((with_reducible refine Ext.setp ?_ ?_); focus (dsimp only; omega)) | (with_reducible refine Ext.drew ?_) | (with_reducible refine Ext.drewN ?_ _) | (with_reducible refine Ext.trans ?_ (by assumption))))⟩
    · have q1 : ¬ (128 : Int) < (ln.length : Int) := by omega
      have q2 : (128 : Int) < (ld.length : Int) := by omega
      go_enter Try.func23, Try.ntmps23
      go_wp2_with fail
      go_ret
      exact ⟨by rw [E.out]; rfl, by (repeat (first | (with_reducible exact Ext.refl _) | (with_reducible assumption) | (with_reducible refine Ext.alloc ?_ _) | ((with_reducible refine Ext.setp ?_ ?_); focus (dsimp only; omega)) | (with_reducible refine Ext.drew ?_) | (with_reducible refine Ext.drewN ?_ _) | (with_reducible refine Ext.trans ?_ (by assumption))))⟩
  · have q1 : ¬ (128 : Int) < (ln.length : Int) := by omega
    have q2 : ¬ (128 : Int) < (ld.length : Int) := by omega
    have s1 : ln.length ≤ 128 := by omega
    have s2 : ld.length ≤ 128 := by omega
    by_cases hc : chkE ln = 0
    · have hc1 := fun W h => check1_any (.slice an ln.length cn) ln W h
      rw [hc] at hc1
      have C1 := Lib.hid hc1
      clear hc1
      by_cases hd0 : chkE ld = 0
      · have hc2 := fun W h => check1_any (.slice ad ld.length cd) ld W h
        rw [hd0] at hc2
        have C2 := Lib.hid hc2
        clear hc2
        obtain ⟨E, hE⟩ : ∃ E, E = chkR ⟨b, ln, ld⟩ := ⟨_, rfl⟩
        rw [← hE]
        have HE := Lib.hid hE; have HC := Lib.hid hc; have HC0 := Lib.hid hd0; have H1 := Lib.hid h1
        clear hE hc hd0 h1
        go_enter Try.func23, Try.ntmps23
        go_wp2_with fail
        refine (C1.out _ (HN.out.ext HX.out)).mono ?_
        rintro e w1 ⟨rfl, hx1⟩
        have B1 := Lib.hid (HB.out.ext hx1); have X1 := Lib.hid (HX.out.trans hx1)
        clear hx1
        have k1 := B1.out.cell; have f1 := B1.out.free; have l1 := B1.out.lt
        go_wp2_with fail
        refine (C2.out _ (HD.out.ext X1.out)).mono ?_
        rintro e w2 ⟨rfl, hx2⟩
        have B2 := Lib.hid (B1.out.ext hx2); have X2 := Lib.hid (X1.out.trans hx2)
        clear hx2 k1 f1 l1 B1 X1
        have k2 := B2.out.cell; have f2 := B2.out.free; have l2 := B2.out.lt
        go_wp2_with fail
        refine (unitR_any _ ld _ (HD.out.ext X2.out)).mono ?_
        rintro e w3 ⟨rfl, hx3⟩
        have B3 := Lib.hid (B2.out.ext hx3); have X3 := Lib.hid (X2.out.trans hx3)
        clear hx3 k2 f2 l2 B2 X2
        have k3 := B3.out.cell; have f3 := B3.out.free; have l3 := B3.out.lt
        by_cases hu : ld = [1]
        · rw [decide_eq_true hu]
          have HU := Lib.hid hu
          clear hu
          go_wp2_with fail
          go_ret
          refine ⟨?_, X3.out⟩
          rw [HE.out]
          unfold chkR
          rw [if_neg H1.out, if_pos (.inr (.inr (.inl HU.out)))]
          rfl
        · rw [decide_eq_false hu]
          have HU := Lib.hid hu
          clear hu
          by_cases hz : ln.length = 0
          · have hz' : ((ln.length : Int) == 0) = true := by simpa using hz
            have hz2 : ln = [] := List.length_eq_zero_iff.1 hz
            cases b
            · by_cases hdz : ld.length = 0
              · have hdz2 : ld = [] := List.length_eq_zero_iff.1 hdz
                have q3 : ¬ (0 : Int) < (ld.length : Int) := by omega
                have HZ := Lib.hid hz2; have HDZ := Lib.hid hdz2
                clear hz2 hdz2
                go_wp2_with fail
                go_ret
                refine ⟨?_, X3.out⟩
                rw [HE.out, HZ.out, HDZ.out]
                rfl
              · have q3 : (0 : Int) < (ld.length : Int) := by omega
                have HZ := Lib.hid hz2
                clear hz2
                go_wp2_with fail
                go_ret
                refine ⟨?_, X3.out⟩
                rw [HE.out]
                unfold chkR
                rw [if_neg H1.out, if_pos (.inr (.inr (.inr ⟨HZ.out, .inr (fun e => hdz (by rw [show ld = [] from e]; rfl))⟩)))]
                rfl
            · have HZ := Lib.hid hz2
              clear hz2
              go_wp2_with fail
              go_ret
              refine ⟨?_, X3.out⟩
              rw [HE.out]
              unfold chkR
              rw [if_neg H1.out, if_pos (.inr (.inr (.inr ⟨HZ.out, .inl rfl⟩)))]
              rfl
          · have hz' : ((ln.length : Int) == 0) = false := by simpa using hz
            have h2 : ¬ (chkE ln ≠ 0 ∨ chkE ld ≠ 0 ∨ ld = [1] ∨ (ln = [] ∧ (b = true ∨ ld ≠ []))) := by
              rintro (h | h | h | ⟨h, _⟩)
              · exact h HC.out
              · exact h HC0.out
              · exact HU.out h
              · exact hz (by rw [h]; rfl)
            have H2 := Lib.hid h2
            clear h2
            by_cases hdz : ld.length = 0
            · have q3 : ¬ (0 : Int) < (ld.length : Int) := by omega
              go_wp2_with fail
              go_ret
              refine ⟨?_, X3.out⟩
              rw [HE.out]
              unfold chkR
              rw [if_neg H1.out, if_neg H2.out, if_neg (fun h => h.1 (List.length_eq_zero_iff.1 hdz))]
              rfl
            · have q3 : (0 : Int) < (ld.length : Int) := by omega
              obtain ⟨g, hg⟩ : ∃ g, g = Nat.gcd (nv ln) (nv ld) := ⟨_, rfl⟩
              have hgs : gcdS ln ld = (lim g, 0) := by unfold gcdS; rw [opS_ok (chk2_ok (by omega) (noZ_of_chkE HC.out) (by omega) (noZ_of_chkE HC0.out)), hg]
              have HG := Lib.hid hg; have HGS := Lib.hid hgs
              clear hg hgs
              go_wp2_with fail
              refine (gcd_any _ _ ln ld _ (HN.out.ext X3.out) (HD.out.ext X3.out) L1.out L2.out).mono ?_
              rw [HGS.out]
              rintro e w4 ⟨⟨v4, rfl, n4⟩, hx4⟩
              obtain ⟨a4, c4, rfl⟩ := n4.shape
              have N4 := Lib.hid n4.rd; have X4 := Lib.hid (X3.out.trans hx4)
              clear n4 hx4
              go_wp2_with fail
              refine (unitR_any _ (lim g) _ N4.out).mono ?_
              rintro e w5 ⟨rfl, hx5⟩
              have X5 := Lib.hid (X4.out.trans hx5)
              clear hx5
              by_cases hg1 : g = 1
              · have e1 : decide (lim g = [1]) = true := by rw [hg1]; rfl
                rw [e1]
                go_wp2_with fail
                go_ret
                refine ⟨?_, X5.out⟩
                rw [HE.out]
                unfold chkR
                rw [if_neg H1.out, if_neg H2.out, if_neg (fun h => h.2 (HG.out.symm.trans hg1))]
                rfl
              · have e1 : decide (lim g = [1]) = false := decide_eq_false (fun e => hg1 (by rw [← nv_lim g, e]; rfl))
                rw [e1]
                go_wp2_with fail
                go_ret
                refine ⟨?_, X5.out⟩
                rw [HE.out]
                unfold chkR
                rw [if_neg H1.out, if_neg H2.out, if_pos ⟨fun e => hdz (by rw [show ld = [] from e]; rfl), fun e => hg1 (HG.out.trans e)⟩]
                rfl
      · have e : chkR ⟨b, ln, ld⟩ = 2 := by unfold chkR; rw [if_neg h1, if_pos (.inr (.inl hd0))]
        obtain ⟨cc, hcc⟩ : ∃ cc, cc = chkE ld := ⟨_, rfl⟩
        have hc2 := fun W h => check1_any (.slice ad ld.length cd) ld W h
        rw [← hcc] at hc2 hd0
        have hcb : (cc != 0) = true := by simpa using hd0
        have C2 := Lib.hid hc2; have E := Lib.hid e
        clear hc2 e hcc h1
        go_enter Try.func23, Try.ntmps23
        go_wp2_with fail
        refine (C1.out _ (HN.out.ext HX.out)).mono ?_
        rintro e w1 ⟨rfl, hx1⟩
        have B1 := Lib.hid (HB.out.ext hx1); have X1 := Lib.hid (HX.out.trans hx1)
        clear hx1
        have k1 := B1.out.cell; have f1 := B1.out.free; have l1 := B1.out.lt
        go_wp2_with fail
        refine (C2.out _ (HD.out.ext X1.out)).mono ?_
        rintro e w2 ⟨rfl, hx2⟩
        have X2 := Lib.hid (X1.out.trans hx2)
        clear hx2
        go_wp2_with fail
        go_ret
        exact ⟨by rw [E.out]; rfl, X2.out⟩
    · have e : chkR ⟨b, ln, ld⟩ = 2 := by unfold chkR; rw [if_neg h1, if_pos (.inl hc)]
      obtain ⟨cc, hcc⟩ : ∃ cc, cc = chkE ln := ⟨_, rfl⟩
      have hc2 := fun W h => check1_any (.slice an ln.length cn) ln W h
      rw [← hcc] at hc2 hc
      have hcb : (cc != 0) = true := by simpa using hc
      have C2 := Lib.hid hc2; have E := Lib.hid e
      clear hc2 e hcc h1
      go_enter Try.func23, Try.ntmps23
      go_wp2_with fail
      refine (C2.out _ (HN.out.ext HX.out)).mono ?_
      rintro e w2 ⟨rfl, hx2⟩
      have B1 := Lib.hid (HB.out.ext hx2); have X2 := Lib.hid (HX.out.trans hx2)
      clear hx2
      have k1 := B1.out.cell; have f1 := B1.out.free; have l1 := B1.out.lt
      go_wp2_with fail
      go_ret
      exact ⟨by rw [E.out]; rfl, X2.out⟩

end Go.Proofs.Ytebdmmlniohhgaa
