/- The law AdviseSymmetry answers true (written by mksymm.py). Conditions: the advisories read as a slice. -/
import Derived.Test.YteglolgdjbmklaaAdvAw
namespace Go.Proofs.Yteglolgdjbmklaa
set_option linter.unusedSimpArgs false
set_option linter.unusedVariables false
open Go.RowKit

/-- The opposite kind. -/
def oppK : List Int := [0, 1, 3, 2, 4, 6, 5, 7]
def oppC : Array Value := #[.int .u8 0, .int .u8 1, .int .u8 3, .int .u8 2, .int .u8 4, .int .u8 6, .int .u8 5, .int .u8 7]
theorem chg_opp (l : List Bnd) (p q : Nat) : ∃ K : Nat, chg l p q = (K : Int) ∧ 1 ≤ K ∧ K ≤ 7 ∧ oppC[K]? = some (.int .u8 (chg l q p)) := by
  unfold chg
  by_cases h1 : p = q
  · subst h1; exact ⟨1, by simp, by omega, by omega, by simp [oppC]⟩
  · rw [if_neg h1, if_neg (Ne.symm h1)]
    by_cases h2 : q = 0
    · rw [if_pos h2]
      have h3 : ¬ p = 0 := fun e => h1 (e.trans h2.symm)
      rw [if_neg h3, if_pos h2]
      exact ⟨2, rfl, by omega, by omega, rfl⟩
    · rw [if_neg h2]
      by_cases h3 : p = 0
      · rw [if_pos h3, if_pos h3]; exact ⟨3, rfl, by omega, by omega, rfl⟩
      · rw [if_neg h3, if_neg h3, if_neg h2]
        by_cases h4 : (bAt l p).1 = (bAt l q).1
        · rw [if_neg (show ¬ (bAt l p).1 ≠ (bAt l q).1 from fun h => h h4), if_neg (show ¬ (bAt l q).1 ≠ (bAt l p).1 from fun h => h h4.symm)]
          rcases ha : ins (bAt l q) (bAt l p) <;> rcases hb : ins (bAt l p) (bAt l q)
          · exact ⟨7, rfl, by omega, by omega, rfl⟩
          · exact ⟨6, rfl, by omega, by omega, rfl⟩
          · exact ⟨5, rfl, by omega, by omega, rfl⟩
          · exact ⟨7, rfl, by omega, by omega, rfl⟩
        · rw [if_pos h4, if_pos (Ne.symm h4)]; exact ⟨4, rfl, by omega, by omega, rfl⟩
theorem chg_5 {l : List Bnd} {p q : Nat} (h : chg l p q = 5) : p ≠ 0 ∧ q ≠ 0 ∧ (bAt l p).1 = (bAt l q).1 ∧ ins (bAt l q) (bAt l p) = true := by
  unfold chg at h
  by_cases h1 : p = q
  · rw [if_pos h1] at h; cases h
  · rw [if_neg h1] at h
    by_cases h2 : q = 0
    · rw [if_pos h2] at h; cases h
    · rw [if_neg h2] at h
      by_cases h3 : p = 0
      · rw [if_pos h3] at h; cases h
      · rw [if_neg h3] at h
        by_cases h4 : (bAt l p).1 = (bAt l q).1
        · rw [if_neg (by simpa using h4)] at h
          by_cases h5 : ins (bAt l q) (bAt l p) = ins (bAt l p) (bAt l q)
          · rw [if_pos h5] at h; cases h
          · rw [if_neg h5] at h
            by_cases h6 : ins (bAt l q) (bAt l p) = true
            · exact ⟨h3, h2, h4, h6⟩
            · rw [if_neg h6] at h; cases h
        · rw [if_pos h4] at h; cases h
/-- A stricter advisory has an advice of at least the same rate in its sense. -/
theorem adv_stricter {l : List Bnd} {p q : Nat} (h : chg l p q = 5) : (advV q (bAt l q)).1 = (advV p (bAt l p)).1 ∧ (advV p (bAt l p)).2.1 ≤ (advV q (bAt l q)).2.1 := by
  obtain ⟨h1, h2, h3, h4⟩ := chg_5 h
  unfold ins at h4
  simp only [Bool.and_eq_true, decide_eq_true_eq] at h4
  unfold advV
  rw [if_neg h1, if_neg h2, h3]
  by_cases h5 : (bAt l q).1 = 2
  · rw [if_pos h5, if_pos h5]; exact ⟨rfl, by dsimp only; omega⟩
  · rw [if_neg h5, if_neg h5]; exact ⟨rfl, by dsimp only; omega⟩
theorem adv_keep (x : Bnd) (p : Nat) : (advV p x).2.2 = (decide (0 < p) && decide ((advV p x).2.1 ≤ 0)) := by
  unfold advV
  by_cases h1 : p = 0
  · rw [if_pos h1]; subst h1; rfl
  · have : decide (0 < p) = true := by simp; omega
    rw [if_neg h1, this]
    by_cases h5 : x.1 = 2
    · rw [if_pos h5]; simp
    · rw [if_neg h5]; simp

set_option maxRecDepth 100000 in
set_option maxHeartbeats 8000000 in
theorem symmL_any (v : Value) (l : List Bnd) (a b : Int) (w : World) (h : RdBnd w v l) (ha : 0 ≤ a ∧ a ≤ 255) (hb : 0 ≤ b ∧ b ≤ 255) :
    Calls Try.prog 5 #[v, .int .u8 a, .int .u8 b] w fun e w' => e = .returned (.bool true) ∧ Ext w w' := by
  have HL := Lib.hid h
  obtain ⟨al, cl, rfl, hlc, hlm, _⟩ := h.get
  have X := Lib.hid (Ext.refl w)
  clear h
  by_cases h0 : l.length = 0
  · have q1 : ((l.length : Int) == 0) = true := by simp [h0]
    clear h0
    go_enter Try.func5, Try.ntmps5
    go_wp2_with fail
    refine (awake28_any _).mono ?_
    rintro e w1 ⟨rfl, hx⟩
    have HL := Lib.hid (HL.out.ext hx); have X := Lib.hid (X.out.trans hx)
    clear hx
    go_wp2_with fail
    go_ret
    exact ⟨rfl, X.out⟩
  · have q1 : ((l.length : Int) == 0) = false := by simpa using h0
    by_cases h20 : 20 < l.length
    · have q2 : (20 : Int) < (l.length : Int) := by omega
      clear h0 h20
      go_enter Try.func5, Try.ntmps5
      go_wp2_with fail
      refine (awake28_any _).mono ?_
      rintro e w1 ⟨rfl, hx⟩
      have HL := Lib.hid (HL.out.ext hx); have X := Lib.hid (X.out.trans hx)
      clear hx
      go_wp2_with fail
      go_ret
      exact ⟨rfl, X.out⟩
    · have q2 : ¬ (20 : Int) < (l.length : Int) := by omega
      have hp0 : 0 ≤ a % (l.length : Int) := Int.emod_nonneg _ (by omega)
      have hp1 : a % (l.length : Int) < (l.length : Int) := Int.emod_lt_of_pos _ (by omega)
      have hq0 : 0 ≤ b % (l.length : Int) := Int.emod_nonneg _ (by omega)
      have hq1 : b % (l.length : Int) < (l.length : Int) := Int.emod_lt_of_pos _ (by omega)
      have e1 : Int.tmod a (l.length : Int) = a % (l.length : Int) := Int.tmod_eq_emod_of_nonneg ha.1
      have e2 : Int.tmod b (l.length : Int) = b % (l.length : Int) := Int.tmod_eq_emod_of_nonneg hb.1
      obtain ⟨p, hp⟩ : ∃ p : Nat, a % (l.length : Int) = p := ⟨(a % (l.length : Int)).toNat, by omega⟩
      obtain ⟨q, hq⟩ : ∃ q : Nat, b % (l.length : Int) = q := ⟨(b % (l.length : Int)).toNat, by omega⟩
      rw [hp] at hp1 e1
      rw [hq] at hq1 e2
      have hpl : p < l.length := by omega
      have hql : q < l.length := by omega
      have hk1 := fun W h => kind_any (.slice al l.length cl) l p q W h
      have hk2 := fun W h => kind_any (.slice al l.length cl) l q p W h
      have hE1 := Lib.hid e1; have hE2 := Lib.hid e2; have hP := Lib.hid hp; have hQ := Lib.hid hq
      have a0 := ha.1; have a1 := ha.2; have b0 := hb.1; have b1 := hb.2
      have n0 : 0 < (l.length : Int) := by omega
      have n1 : (l.length : Int) ≠ 0 := by omega
      clear e1 e2 hp hq hp0 hp1 hq0 hq1 h20 ha hb
      by_cases hac : achk l = 0
      · rw [kindS_0 hac hpl hql] at hk1
        rw [kindS_0 hac hql hpl] at hk2
        obtain ⟨K, hK, hK1, hK7, hop⟩ := chg_opp l p q
        have h5 := fun h => adv_stricter (l := l) (p := p) (q := q) h
        have hv1 := fun W h => adv_any (.slice al l.length cl) l p W h
        have hv2 := fun W h => adv_any (.slice al l.length cl) l q W h
        rw [advS_0 hac hpl] at hv1
        rw [advS_0 hac hql] at hv2
        have hkp := adv_keep (bAt l p) p
        rw [hK] at hk1 h5
        obtain ⟨R, hR⟩ : ∃ R, R = chg l q p := ⟨_, rfl⟩
        rw [← hR] at hk2 hop
        obtain ⟨x, hx⟩ : ∃ x, x = advV p (bAt l p) := ⟨_, rfl⟩
        obtain ⟨y, hy⟩ : ∃ y, y = advV q (bAt l q) := ⟨_, rfl⟩
        rw [← hx] at hv1 h5 hkp
        rw [← hy] at hv2 h5
        clear hx hy hR hK hac
        obtain ⟨x1, x2, x3⟩ := x
        obtain ⟨y1, y2, y3⟩ := y
        unfold advW at hv1 hv2
        dsimp only at hv1 hv2 h5 hkp hk1 hk2
        obtain ⟨bk, hbk⟩ : ∃ b, b = (decide (0 < p) && decide (x2 ≤ 0)) := ⟨_, rfl⟩
        rw [hkp, ← hbk] at hv1; clear hkp
        have HB := Lib.hid hbk; clear hbk
        have HK1 := Lib.hid hk1; have HK2 := Lib.hid hk2; have HV1 := Lib.hid hv1; have HV2 := Lib.hid hv2; have H5 := Lib.hid h5; have HOP := Lib.hid hop
        clear hk1 hk2 hv1 hv2 h5 hop h0
        go_enter Try.func5, Try.ntmps5
        go_wp2_with fail
        refine (awake28_any _).mono ?_
        rintro e w1 ⟨rfl, hx⟩
        have HL := Lib.hid (HL.out.ext hx); have X := Lib.hid (X.out.trans hx)
        clear hx
        go_wp2_with fail
        go_quiet (fail)
        try rw [hE1.out]
        try rw [hE2.out]
        try rw [hP.out]
        try rw [hQ.out]
        obtain ⟨w2, hw2⟩ : ∃ W, W = w1.drewN nq := ⟨_, rfl⟩
        have hx : Ext w1 w2 := by rw [hw2]; exact (Ext.refl _).drewN _
        rw [← hw2]; clear hw2
        have HL := Lib.hid (HL.out.ext hx); have X := Lib.hid (X.out.trans hx)
        clear hx
        go_wp2_with fail
        refine (HK1.out _ HL.out).mono ?_
        rintro e w3 ⟨rfl, hx⟩
        have HL := Lib.hid (HL.out.ext hx); have X := Lib.hid (X.out.trans hx)
        clear hx
        go_wp2_with fail
        refine (HK2.out _ HL.out).mono ?_
        rintro e w4 ⟨rfl, hx⟩
        have HL := Lib.hid (HL.out.ext hx); have X := Lib.hid (X.out.trans hx)
        clear hx
        go_wp2_with fail
        have bz := Blk.new w4 #[.int .u8 0, .int .u8 1, .int .u8 3, .int .u8 2, .int .u8 4, .int .u8 6, .int .u8 5, .int .u8 7] 5
        have hx : Ext w4 (w4.alloc (.cells #[.int .u8 0, .int .u8 1, .int .u8 3, .int .u8 2, .int .u8 4, .int .u8 6, .int .u8 5, .int .u8 7] 5)) := (Ext.refl _).alloc _
        obtain ⟨Bon, hBo⟩ : ∃ n, n = w4.heap.size := ⟨_, rfl⟩
        obtain ⟨w5, hw5⟩ : ∃ W, W = w4.alloc (.cells #[.int .u8 0, .int .u8 1, .int .u8 3, .int .u8 2, .int .u8 4, .int .u8 6, .int .u8 5, .int .u8 7] 5) := ⟨_, rfl⟩
        rw [← hw5] at bz hx ⊢; rw [← hBo] at bz ⊢; clear hw5 hBo
        have HL := Lib.hid (HL.out.ext hx); have X := Lib.hid (X.out.trans hx)
        have Bo := Lib.hid bz; clear hx bz
        refine (HV1.out _ HL.out).mono ?_
        rintro e w6 ⟨rfl, hx⟩
        have HL := Lib.hid (HL.out.ext hx); have Bo := Lib.hid (Bo.out.ext hx); have X := Lib.hid (X.out.trans hx)
        clear hx
        go_wp2_with fail
        have bz := Blk.new w6 #[.int .u8 x1, .int .i64 x2, .bool bk] 36
        have hx : Ext w6 (w6.alloc (.cells #[.int .u8 x1, .int .i64 x2, .bool bk] 36)) := (Ext.refl _).alloc _
        obtain ⟨Ban, hBa⟩ : ∃ n, n = w6.heap.size := ⟨_, rfl⟩
        obtain ⟨w7, hw7⟩ : ∃ W, W = w6.alloc (.cells #[.int .u8 x1, .int .i64 x2, .bool bk] 36) := ⟨_, rfl⟩
        rw [← hw7] at bz hx ⊢; rw [← hBa] at bz ⊢; clear hw7 hBa
        have HL := Lib.hid (HL.out.ext hx); have Bo := Lib.hid (Bo.out.ext hx); have X := Lib.hid (X.out.trans hx)
        have Ba := Lib.hid bz; clear hx bz
        refine (HV2.out _ HL.out).mono ?_
        rintro e w8 ⟨rfl, hx⟩
        have HL := Lib.hid (HL.out.ext hx); have Bo := Lib.hid (Bo.out.ext hx); have Ba := Lib.hid (Ba.out.ext hx); have X := Lib.hid (X.out.trans hx)
        clear hx
        have k1 : ¬ (K : Int) < 1 := by omega
        have k2 : ¬ 7 < (K : Int) := by omega
        have k3 : (K : Int) < 8 := by omega
        have k4 : (0 : Int) ≤ (K : Int) := by omega
        have c1 : (w8.alloc (.cells #[.int .u8 y1, .int .i64 y2, .bool y3] 36)).cell? ⟨Bon, K, none⟩ = some (.int .u8 R) := ((Bo.out.alloc _).cell K).trans HOP.out
        have c2 := (Ba.out.alloc (.cells #[.int .u8 y1, .int .i64 y2, .bool y3] 36)).cell
        have c3 := (Blk.new w8 #[.int .u8 y1, .int .i64 y2, .bool y3] 36).cell
        have xf : Ext w (w8.alloc (.cells #[.int .u8 y1, .int .i64 y2, .bool y3] 36)) := X.out.alloc _
        have XF := Lib.hid xf
        clear xf hK1 hK7
        by_cases hp0 : p = 0
        · have b1 : bk = false := by rw [HB.out, hp0]; rfl
          subst b1
          subst hp0
          clear HB
          by_cases h5 : K = 5
          · obtain ⟨s1, s2⟩ := H5.out (by omega)
            subst s1
            subst h5
            go_wp2_with fail
            go_ret
            exact ⟨rfl, XF.out⟩
          · have k5 : ¬ (K : Int) = 5 := by omega
            clear h5
            go_wp2_with fail
            go_ret
            exact ⟨rfl, XF.out⟩
        · have p1 : (0 : Int) < (p : Int) := by omega
          by_cases h6 : x2 ≤ 0
          · have b1 : bk = true := by rw [HB.out, decide_eq_true h6, decide_eq_true (by omega : 0 < p)]; rfl
            subst b1
            clear HB hp0
            by_cases h5 : K = 5
            · obtain ⟨s1, s2⟩ := H5.out (by omega)
              subst s1
              subst h5
              go_wp2_with fail
              go_ret
              exact ⟨rfl, XF.out⟩
            · have k5 : ¬ (K : Int) = 5 := by omega
              clear h5
              go_wp2_with fail
              go_ret
              exact ⟨rfl, XF.out⟩
          · have b1 : bk = false := by rw [HB.out, decide_eq_false h6, Bool.and_false]
            subst b1
            clear HB hp0
            by_cases h5 : K = 5
            · obtain ⟨s1, s2⟩ := H5.out (by omega)
              subst s1
              subst h5
              go_wp2_with fail
              go_ret
              exact ⟨rfl, XF.out⟩
            · have k5 : ¬ (K : Int) = 5 := by omega
              clear h5
              go_wp2_with fail
              go_ret
              exact ⟨rfl, XF.out⟩
      · rw [kindS_a hac] at hk1
        rw [kindS_a hac] at hk2
        have hck := fun W h => achk_any (.slice al l.length cl) l W h
        obtain ⟨c, hc⟩ : ∃ c, c = achk l := ⟨_, rfl⟩
        rw [← hc] at hk1 hk2 hck hac
        dsimp only at hk1 hk2
        have HK1 := Lib.hid hk1; have HK2 := Lib.hid hk2; have HCK := Lib.hid hck
        clear hk1 hk2 hck hc h0
        go_enter Try.func5, Try.ntmps5
        go_wp2_with fail
        refine (awake28_any _).mono ?_
        rintro e w1 ⟨rfl, hx⟩
        have HL := Lib.hid (HL.out.ext hx); have X := Lib.hid (X.out.trans hx)
        clear hx
        go_wp2_with fail
        go_quiet (fail)
        try rw [hE1.out]
        try rw [hE2.out]
        try rw [hP.out]
        try rw [hQ.out]
        obtain ⟨w2, hw2⟩ : ∃ W, W = w1.drewN nq := ⟨_, rfl⟩
        have hx : Ext w1 w2 := by rw [hw2]; exact (Ext.refl _).drewN _
        rw [← hw2]; clear hw2
        have HL := Lib.hid (HL.out.ext hx); have X := Lib.hid (X.out.trans hx)
        clear hx
        go_wp2_with fail
        refine (HK1.out _ HL.out).mono ?_
        rintro e w3 ⟨rfl, hx⟩
        have HL := Lib.hid (HL.out.ext hx); have X := Lib.hid (X.out.trans hx)
        clear hx
        go_wp2_with fail
        refine (HK2.out _ HL.out).mono ?_
        rintro e w4 ⟨rfl, hx⟩
        have HL := Lib.hid (HL.out.ext hx); have X := Lib.hid (X.out.trans hx)
        clear hx
        go_wp2_with fail
        refine (HCK.out _ HL.out).mono ?_
        rintro e w5 ⟨rfl, hx⟩
        have HL := Lib.hid (HL.out.ext hx); have X := Lib.hid (X.out.trans hx)
        clear hx
        go_wp2_with fail
        go_ret
        exact ⟨rfl, X.out⟩

end Go.Proofs.Yteglolgdjbmklaa
