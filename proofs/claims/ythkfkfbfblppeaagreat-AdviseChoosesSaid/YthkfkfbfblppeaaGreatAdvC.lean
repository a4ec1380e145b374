/- Walks of Next of advise and of its reference (written by mkadvc.py). Conditions: the advisories read as a slice. -/
import Derived.Test.YthkfkfbfblppeaaGreatAdvB
namespace Go.Proofs.YthkfkfbfblppeaaGreat
set_option linter.unusedSimpArgs false
set_option linter.unusedVariables false
open Go.RowKit

theorem nextS_e {l : List Bnd} {now age rev b : Int} (h : cn2 l now b ≠ 0) : nextS l now age rev b = ((0, 0, 0), cn2 l now b) := if_pos h
theorem nextS_m {l : List Bnd} {now age rev b : Int} (h : cn2 l now b = 0) (h2 : memE age rev ≠ 0) : nextS l now age rev b = ((0, 0, 0), memE age rev) := by
  unfold nextS; rw [if_neg (by simp [h]), if_pos h2]
theorem nextS_0 {l : List Bnd} {i j : Nat} {age rev : Int} (h : achk l = 0) (hi : i < l.length) (hj : j < l.length) (h2 : memE age rev = 0) : nextS l i age rev j = (nextV (chg l i j) age rev j, 0) := by
  unfold nextS; rw [cn2_ok h (by omega), if_neg (by decide), if_neg (by simp [h2]), Int.toNat_natCast, Int.toNat_natCast]

/-- The value of a memory. -/
def memW (x : Int × Int × Int) : Value := .agg #[.int .i64 x.1, .int .i64 x.2.1, .int .i64 x.2.2]

theorem checkMemory_any (now age rev : Int) (w : World) :
    Calls Tryz.prog 92 #[.agg #[.int .i64 now, .int .i64 age, .int .i64 rev]] w fun e w' => e = .returned (.int .i64 (memE age rev)) ∧ Ext w w' := by
  have h1 := fun W => outside_any age 1000 W
  have h2 := fun W => outside_any rev 100 W
  have B := Lib.hid (Blk.new w #[.int .i64 now, .int .i64 age, .int .i64 rev] 47)
  by_cases q1 : age < 0 ∨ 1000 < age
  · have e : memE age rev = 1 := if_pos (Or.inl q1)
    rw [e]
    rw [decide_eq_true q1] at h1
    have H1 := Lib.hid h1
    clear h1 h2 q1 e
    go_enter Tryz.func92, Tryz.ntmps92
    go_wp2_with fail
    refine (H1.out _).mono ?_
    rintro e w1 ⟨rfl, rfl⟩
    go_wp2_with fail
    go_ret
    exact ⟨rfl, by (repeat (first | (with_reducible exact Ext.refl _) | (with_reducible assumption) | (with_reducible refine Ext.alloc ?_ _) | ((with_reducible refine Ext.setp ?_ ?_); focus (dsimp only; omega)) | (with_reducible refine Ext.drew ?_) | (with_reducible refine Ext.drewN ?_ _) | (with_reducible refine Ext.trans ?_ (by assumption))))⟩
  · by_cases q2 : rev < 0 ∨ 100 < rev
    · have e : memE age rev = 1 := if_pos (Or.inr q2)
      rw [e]
      rw [decide_eq_false q1] at h1
      rw [decide_eq_true q2] at h2
      have H1 := Lib.hid h1; have H2 := Lib.hid h2
      clear h1 h2 q1 q2 e
      go_enter Tryz.func92, Tryz.ntmps92
      go_wp2_with fail
      refine (H1.out _).mono ?_
      rintro e w1 ⟨rfl, rfl⟩
      go_wp2_with fail
      refine (H2.out _).mono ?_
      rintro e w1 ⟨rfl, rfl⟩
      go_wp2_with fail
      go_ret
      exact ⟨rfl, by (repeat (first | (with_reducible exact Ext.refl _) | (with_reducible assumption) | (with_reducible refine Ext.alloc ?_ _) | ((with_reducible refine Ext.setp ?_ ?_); focus (dsimp only; omega)) | (with_reducible refine Ext.drew ?_) | (with_reducible refine Ext.drewN ?_ _) | (with_reducible refine Ext.trans ?_ (by assumption))))⟩
    · have e : memE age rev = 0 := if_neg (by omega)
      rw [e]
      rw [decide_eq_false q1] at h1
      rw [decide_eq_false q2] at h2
      have H1 := Lib.hid h1; have H2 := Lib.hid h2
      clear h1 h2 q1 q2 e
      go_enter Tryz.func92, Tryz.ntmps92
      go_wp2_with fail
      refine (H1.out _).mono ?_
      rintro e w1 ⟨rfl, rfl⟩
      go_wp2_with fail
      refine (H2.out _).mono ?_
      rintro e w1 ⟨rfl, rfl⟩
      go_wp2_with fail
      go_ret
      exact ⟨rfl, by (repeat (first | (with_reducible exact Ext.refl _) | (with_reducible assumption) | (with_reducible refine Ext.alloc ?_ _) | ((with_reducible refine Ext.setp ?_ ?_); focus (dsimp only; omega)) | (with_reducible refine Ext.drew ?_) | (with_reducible refine Ext.drewN ?_ _) | (with_reducible refine Ext.trans ?_ (by assumption))))⟩

theorem memory_any (v : Value) (l : List Bnd) (now age rev : Int) (w : World) (h : RdBnd w v l) :
    Calls Tryz.prog 84 #[v, .agg #[.int .i64 now, .int .i64 age, .int .i64 rev]] w fun e w' => e = .returned (.int .i64 (cn1 l now)) ∧ Ext w w' := by
  have h0 := h
  obtain ⟨a, cap, rfl, hc, hm, _⟩ := h.get
  have H := Lib.hid h0
  clear h h0
  have hak := fun W h => refAchk_any (.slice a l.length cap) l W h
  have ha := @cn1_a l now
  have h8 := @cn1_8 l now
  have hok := @cn1_ok l now
  obtain ⟨c, hcc⟩ : ∃ x, x = achk l := ⟨_, rfl⟩
  rw [← hcc] at hak ha h8 hok
  have B := Lib.hid (Blk.new w #[.int .i64 now, .int .i64 age, .int .i64 rev] 47)
  have X := Lib.hid ((Ext.refl w).alloc (.cells #[.int .i64 now, .int .i64 age, .int .i64 rev] 47))
  have HK := Lib.hid hak
  clear hak hcc
  by_cases h0 : c = 0
  · subst h0
    have hin := fun W => is_any a l.length cap now W
    by_cases h1 : 0 ≤ now ∧ now < l.length
    · rw [hok rfl h1]
      rw [decide_eq_true h1] at hin
      have HI := Lib.hid hin
      clear ha h8 hok h1 hin
      go_enter Tryz.func84, Tryz.ntmps84
      go_wp2_with fail
      refine (HK.out _ (H.out.ext X.out)).mono ?_
      rintro e w1 ⟨rfl, hx1⟩
      have B1 := Lib.hid (B.out.ext hx1); have X1 := Lib.hid (X.out.trans hx1)
      clear hx1
      have c0 := B1.out.cell; have l0 := B1.out.lt
      go_wp2_with fail
      refine (HI.out _).mono ?_
      rintro e w2 ⟨rfl, rfl⟩
      go_wp2_with fail
      go_ret
      exact ⟨rfl, X1.out⟩
    · rw [h8 rfl h1]
      rw [decide_eq_false h1] at hin
      have HI := Lib.hid hin
      clear ha h8 hok h1 hin
      go_enter Tryz.func84, Tryz.ntmps84
      go_wp2_with fail
      refine (HK.out _ (H.out.ext X.out)).mono ?_
      rintro e w1 ⟨rfl, hx1⟩
      have B1 := Lib.hid (B.out.ext hx1); have X1 := Lib.hid (X.out.trans hx1)
      clear hx1
      have c0 := B1.out.cell; have l0 := B1.out.lt
      go_wp2_with fail
      refine (HI.out _).mono ?_
      rintro e w2 ⟨rfl, rfl⟩
      go_wp2_with fail
      go_ret
      exact ⟨rfl, X1.out⟩
  · have hb : (c != 0) = true := by simpa using h0
    rw [ha h0]
    clear ha h8 hok h0
    go_enter Tryz.func84, Tryz.ntmps84
    go_wp2_with fail
    refine (HK.out _ (H.out.ext X.out)).mono ?_
    rintro e w1 ⟨rfl, hx1⟩
    have X1 := Lib.hid (X.out.trans hx1)
    clear hx1
    go_wp2_with fail
    go_ret
    exact ⟨rfl, X1.out⟩

set_option maxHeartbeats 4000000 in
theorem next_any (v : Value) (l : List Bnd) (now age rev b : Int) (w : World) (h : RdBnd w v l) (g1 : -9223372036854775808 ≤ age) (g2 : -9223372036854775808 ≤ rev) :
    Calls Tryz.prog 83 #[v, .agg #[.int .i64 now, .int .i64 age, .int .i64 rev], .int .i64 b] w fun e w' => e = .returned (.tuple #[memW (nextS l now age rev b).1, .int .i64 (nextS l now age rev b).2]) ∧ Ext w w' := by
  have h0 := h
  obtain ⟨a, cap, rfl, hc, hm, _⟩ := h.get
  have H := Lib.hid h0
  clear h h0
  have hB : Blk ((w.alloc (.cells #[.int .i64 now, .int .i64 age, .int .i64 rev] 47)).alloc (.cells #[.int .i64 0, .int .i64 0, .int .i64 0] 47)) w.heap.size #[.int .i64 now, .int .i64 age, .int .i64 rev] 47 := (Blk.new w #[.int .i64 now, .int .i64 age, .int .i64 rev] 47).alloc _
  have hR : Blk ((w.alloc (.cells #[.int .i64 now, .int .i64 age, .int .i64 rev] 47)).alloc (.cells #[.int .i64 0, .int .i64 0, .int .i64 0] 47)) (w.heap.size + 1) #[.int .i64 0, .int .i64 0, .int .i64 0] 47 := by
    have := Blk.new (w.alloc (.cells #[.int .i64 now, .int .i64 age, .int .i64 rev] 47)) #[.int .i64 0, .int .i64 0, .int .i64 0] 47
    rwa [World.size_alloc] at this
  have hX : Ext w ((w.alloc (.cells #[.int .i64 now, .int .i64 age, .int .i64 rev] 47)).alloc (.cells #[.int .i64 0, .int .i64 0, .int .i64 0] 47)) := ((Ext.refl w).alloc _).alloc _
  have hXX := Lib.hid hX; have hBB := Lib.hid hB; have hRR := Lib.hid hR
  clear hB hR hX
  have hck := fun W g h1 h2 => checkNumbers2_any (.slice a l.length cap) l now b g W h1 h2
  have hcm := fun W => checkMemory_any now age rev W
  have hG : Blk (((w.alloc (.cells #[.int .i64 now, .int .i64 age, .int .i64 rev] 47)).alloc (.cells #[.int .i64 0, .int .i64 0, .int .i64 0] 47)).alloc (.cells #[.int .i64 now, .int .i64 b] 3)) (w.heap.size + 1 + 1) #[.int .i64 now, .int .i64 b] 3 := by
    have := Blk.new ((w.alloc (.cells #[.int .i64 now, .int .i64 age, .int .i64 rev] 47)).alloc (.cells #[.int .i64 0, .int .i64 0, .int .i64 0] 47)) #[.int .i64 now, .int .i64 b] 3
    rwa [World.size_alloc, World.size_alloc] at this
  have B0 := Lib.hid (hBB.out.alloc (.cells #[.int .i64 now, .int .i64 b] 3)); have R0 := Lib.hid (hRR.out.alloc (.cells #[.int .i64 now, .int .i64 b] 3)); have X0 := Lib.hid (hXX.out.alloc (.cells #[.int .i64 now, .int .i64 b] 3)); have G0 := Lib.hid hG
  clear hG hXX hBB hRR
  by_cases h0 : cn2 l now b = 0
  · skip
    rw [h0] at hck
    by_cases hme : memE age rev = 0
    · skip
      obtain ⟨hac, ⟨i, rfl, hi⟩, j, rfl, hj⟩ := cn2_0 h0
      rw [hme] at hcm
      have hns := nextS_0 hac hi hj hme
      have hch := fun W h => change_any (.slice a l.length cap) l i j W h hi hj
      obtain ⟨K, hK⟩ : ∃ x, x = chg l i j := ⟨_, rfl⟩
      rw [← hK] at hns hch
      have hmb : 0 ≤ age ∧ age ≤ 1000 ∧ 0 ≤ rev ∧ rev ≤ 100 := by
        unfold memE at hme
        split at hme
        · cases hme
        · omega
      have HME := Lib.hid hmb; have HK := Lib.hid hck; have HCM := Lib.hid hcm; have HCH := Lib.hid hch; have HS := Lib.hid hns
      clear hmb hck hcm hch hns hK hac hi hj hme h0 g1 g2
      go_enter Tryz.func83, Tryz.ntmps83
      go_wp2_with fail
      refine (HK.out _ (w.heap.size + 1 + 1) (H.out.ext X0.out) G0.out).mono ?_
      rintro e w1 ⟨rfl, hx1⟩
      have B1 := Lib.hid (B0.out.ext hx1); have R1 := Lib.hid (R0.out.ext hx1); have X1 := Lib.hid (X0.out.trans hx1)
      clear hx1
      have c0 := B1.out.cell; have f0 := B1.out.free; have l0 := B1.out.lt; have c1 := R1.out.cell; have f1 := R1.out.free; have l1 := R1.out.lt
      go_wp2_with fail
      refine (HCM.out _).mono ?_
      rintro e w9 ⟨rfl, hx2⟩
      have B := Lib.hid (B1.out.ext hx2); have R := Lib.hid (R1.out.ext hx2); have X := Lib.hid (X1.out.trans hx2)
      clear hx2
      clear c0 f0 l0 c1 f1 l1
      have c0 := B.out.cell; have f0 := B.out.free; have l0 := B.out.lt; have c1 := R.out.cell; have f1 := R.out.free; have l1 := R.out.lt
      go_wp2_with fail
      have bn := Blk.new w9 #[.int .i64 j, .int .i64 0, .int .i64 rev] 47
      have xn : Ext w9 (w9.alloc (.cells #[.int .i64 j, .int .i64 0, .int .i64 rev] 47)) := (Ext.refl _).alloc _
      have B2 := Lib.hid (B.out.ext xn); have R2 := Lib.hid (R.out.ext xn); have X2 := Lib.hid (X.out.trans xn)
      refine (HCH.out _ (H.out.ext X2.out)).mono ?_
      rintro e w3 ⟨rfl, hx3⟩
      have N3 := Lib.hid (bn.ext hx3); have B3 := Lib.hid (B2.out.ext hx3); have R3 := Lib.hid (R2.out.ext hx3); have X3 := Lib.hid (X2.out.trans hx3)
      have z9 := Lib.hid X.out.size; have zl := Lib.hid l1
      clear bn xn hx3
      clear c0 f0 l0 c1 f1 l1
      have zl := zl.out
      obtain ⟨g, hg⟩ : ∃ x, x = w9.heap.size := ⟨_, rfl⟩
      rw [← hg] at N3 zl ⊢
      have ne1 : g ≠ w.heap.size := by omega
      have ne2 : g ≠ w.heap.size + 1 := by omega
      have gz : w.heap.size ≤ g := by omega
      clear zl hg
      have c0 := B3.out.cell; have f0 := B3.out.free; have l0 := B3.out.lt; have c1 := R3.out.cell; have f1 := R3.out.free; have l1 := R3.out.lt
      have c2 := N3.out.cell; have f2 := N3.out.free; have l2 := N3.out.lt
      by_cases k1 : K = 1
      · subst k1
        have HN2 := HS.out
        have ev : nextV 1 age rev j = ((j : Int), ((if age + 1 ≤ 1000 then age + 1 else 1000)), rev) := rfl
        rw [ev] at HN2
        have HS2 := Lib.hid HN2
        clear HN2 ev
        have hw : wrap64 (age + 1) = age + 1 := by unfold wrap64; have := HME.out; omega
        by_cases hmin : age + 1 ≤ 1000
        · skip
          have HS3 := HS2.out
          rw [if_pos hmin] at HS3
          have HS3 := Lib.hid HS3
          have n4 : Blk (w3.setCell ⟨g, 1, none⟩ (.int .i64 (age + 1))) g #[.int .i64 j, .int .i64 (age + 1), .int .i64 rev] 47 := by
            have := N3.out.set 1 (.int .i64 (age + 1)); simpa using this
          have r4 := R3.out.setOther (a := ⟨g, 1, none⟩) (Ne.symm ne2) (.int .i64 (age + 1))
          have d2 := n4.cell; have e2 := n4.free; have d1 := r4.cell; have e1 := r4.free
          clear n4 r4
          go_wp2_with fail
          all_goals
            refine bodyPost_ret (v := .tuple #[.agg #[.int .i64 j, .int .i64 (age + 1), .int .i64 rev], .int .i64 0]) (by simp only [results, Tryz.results83]; go_simp) rfl ⟨by rw [HS3.out]; rfl, ?_⟩
            have := X3.out; (repeat (first | (with_reducible exact Ext.refl _) | (with_reducible assumption) | (with_reducible refine Ext.alloc ?_ _) | ((with_reducible refine Ext.setp ?_ ?_); focus (dsimp only; omega)) | (with_reducible refine Ext.drew ?_) | (with_reducible refine Ext.drewN ?_ _) | (with_reducible refine Ext.trans ?_ (by assumption))))
        · skip
          have HS3 := HS2.out
          rw [if_neg hmin] at HS3
          have HS3 := Lib.hid HS3
          have n4 : Blk (w3.setCell ⟨g, 1, none⟩ (.int .i64 1000)) g #[.int .i64 j, .int .i64 1000, .int .i64 rev] 47 := by
            have := N3.out.set 1 (.int .i64 1000); simpa using this
          have r4 := R3.out.setOther (a := ⟨g, 1, none⟩) (Ne.symm ne2) (.int .i64 1000)
          have d2 := n4.cell; have e2 := n4.free; have d1 := r4.cell; have e1 := r4.free
          clear n4 r4
          go_wp2_with fail
          all_goals
            refine bodyPost_ret (v := .tuple #[.agg #[.int .i64 j, .int .i64 1000, .int .i64 rev], .int .i64 0]) (by simp only [results, Tryz.results83]; go_simp) rfl ⟨by rw [HS3.out]; rfl, ?_⟩
            have := X3.out; (repeat (first | (with_reducible exact Ext.refl _) | (with_reducible assumption) | (with_reducible refine Ext.alloc ?_ _) | ((with_reducible refine Ext.setp ?_ ?_); focus (dsimp only; omega)) | (with_reducible refine Ext.drew ?_) | (with_reducible refine Ext.drewN ?_ _) | (with_reducible refine Ext.trans ?_ (by assumption))))
      by_cases k2 : K = 2
      · subst k2
        have HN2 := HS.out
        have ev : nextV 2 age rev j = ((j : Int), 0, 0) := rfl
        rw [ev] at HN2
        have HS2 := Lib.hid HN2
        clear HN2 ev
        have n4 : Blk (w3.setCell ⟨g, 2, none⟩ (.int .i64 0)) g #[.int .i64 j, .int .i64 0, .int .i64 0] 47 := by
          have := N3.out.set 2 (.int .i64 0); simpa using this
        have r4 := R3.out.setOther (a := ⟨g, 2, none⟩) (Ne.symm ne2) (.int .i64 0)
        have d2 := n4.cell; have e2 := n4.free; have d1 := r4.cell; have e1 := r4.free
        clear n4 r4
        go_wp2_with fail
        all_goals
          refine bodyPost_ret (v := .tuple #[.agg #[.int .i64 j, .int .i64 0, .int .i64 0], .int .i64 0]) (by simp only [results, Tryz.results83]; go_simp) rfl ⟨by rw [HS2.out]; rfl, ?_⟩
          have := X3.out; (repeat (first | (with_reducible exact Ext.refl _) | (with_reducible assumption) | (with_reducible refine Ext.alloc ?_ _) | ((with_reducible refine Ext.setp ?_ ?_); focus (dsimp only; omega)) | (with_reducible refine Ext.drew ?_) | (with_reducible refine Ext.drewN ?_ _) | (with_reducible refine Ext.trans ?_ (by assumption))))
      by_cases k3 : K = 3
      · subst k3
        have HN2 := HS.out
        have ev : nextV 3 age rev j = ((j : Int), 0, 0) := rfl
        rw [ev] at HN2
        have HS2 := Lib.hid HN2
        clear HN2 ev
        have n4 : Blk (w3.setCell ⟨g, 2, none⟩ (.int .i64 0)) g #[.int .i64 j, .int .i64 0, .int .i64 0] 47 := by
          have := N3.out.set 2 (.int .i64 0); simpa using this
        have r4 := R3.out.setOther (a := ⟨g, 2, none⟩) (Ne.symm ne2) (.int .i64 0)
        have d2 := n4.cell; have e2 := n4.free; have d1 := r4.cell; have e1 := r4.free
        clear n4 r4
        go_wp2_with fail
        all_goals
          refine bodyPost_ret (v := .tuple #[.agg #[.int .i64 j, .int .i64 0, .int .i64 0], .int .i64 0]) (by simp only [results, Tryz.results83]; go_simp) rfl ⟨by rw [HS2.out]; rfl, ?_⟩
          have := X3.out; (repeat (first | (with_reducible exact Ext.refl _) | (with_reducible assumption) | (with_reducible refine Ext.alloc ?_ _) | ((with_reducible refine Ext.setp ?_ ?_); focus (dsimp only; omega)) | (with_reducible refine Ext.drew ?_) | (with_reducible refine Ext.drewN ?_ _) | (with_reducible refine Ext.trans ?_ (by assumption))))
      by_cases k4 : K = 4
      · subst k4
        have HN2 := HS.out
        have ev : nextV 4 age rev j = ((j : Int), 0, (if rev + 1 ≤ 100 then rev + 1 else 100)) := rfl
        rw [ev] at HN2
        have HS2 := Lib.hid HN2
        clear HN2 ev
        have hw : wrap64 (rev + 1) = rev + 1 := by unfold wrap64; have := HME.out; omega
        by_cases hmin : rev + 1 ≤ 100
        · skip
          have HS3 := HS2.out
          rw [if_pos hmin] at HS3
          have HS3 := Lib.hid HS3
          have n4 : Blk (w3.setCell ⟨g, 2, none⟩ (.int .i64 (rev + 1))) g #[.int .i64 j, .int .i64 0, .int .i64 (rev + 1)] 47 := by
            have := N3.out.set 2 (.int .i64 (rev + 1)); simpa using this
          have r4 := R3.out.setOther (a := ⟨g, 2, none⟩) (Ne.symm ne2) (.int .i64 (rev + 1))
          have d2 := n4.cell; have e2 := n4.free; have d1 := r4.cell; have e1 := r4.free
          clear n4 r4
          go_wp2_with fail
          all_goals
            refine bodyPost_ret (v := .tuple #[.agg #[.int .i64 j, .int .i64 0, .int .i64 (rev + 1)], .int .i64 0]) (by simp only [results, Tryz.results83]; go_simp) rfl ⟨by rw [HS3.out]; rfl, ?_⟩
            have := X3.out; (repeat (first | (with_reducible exact Ext.refl _) | (with_reducible assumption) | (with_reducible refine Ext.alloc ?_ _) | ((with_reducible refine Ext.setp ?_ ?_); focus (dsimp only; omega)) | (with_reducible refine Ext.drew ?_) | (with_reducible refine Ext.drewN ?_ _) | (with_reducible refine Ext.trans ?_ (by assumption))))
        · skip
          have HS3 := HS2.out
          rw [if_neg hmin] at HS3
          have HS3 := Lib.hid HS3
          have n4 : Blk (w3.setCell ⟨g, 2, none⟩ (.int .i64 100)) g #[.int .i64 j, .int .i64 0, .int .i64 100] 47 := by
            have := N3.out.set 2 (.int .i64 100); simpa using this
          have r4 := R3.out.setOther (a := ⟨g, 2, none⟩) (Ne.symm ne2) (.int .i64 100)
          have d2 := n4.cell; have e2 := n4.free; have d1 := r4.cell; have e1 := r4.free
          clear n4 r4
          go_wp2_with fail
          all_goals
            refine bodyPost_ret (v := .tuple #[.agg #[.int .i64 j, .int .i64 0, .int .i64 100], .int .i64 0]) (by simp only [results, Tryz.results83]; go_simp) rfl ⟨by rw [HS3.out]; rfl, ?_⟩
            have := X3.out; (repeat (first | (with_reducible exact Ext.refl _) | (with_reducible assumption) | (with_reducible refine Ext.alloc ?_ _) | ((with_reducible refine Ext.setp ?_ ?_); focus (dsimp only; omega)) | (with_reducible refine Ext.drew ?_) | (with_reducible refine Ext.drewN ?_ _) | (with_reducible refine Ext.trans ?_ (by assumption))))
      have HN2 := HS.out
      have q1 : (K == 1) = false := by simpa using k1
      have q2 : (K == 2) = false := by simpa using k2
      have q3 : (K == 3) = false := by simpa using k3
      have q4 : (K == 4) = false := by simpa using k4
      have ev : nextV K age rev j = ((j : Int), 0, rev) := by unfold nextV; rw [if_neg k1, if_neg (by omega), if_neg k4]
      rw [ev] at HN2
      have HS2 := Lib.hid HN2
      clear HN2 ev k1 k2 k3 k4
      go_wp2_with fail
      all_goals
        refine bodyPost_ret (v := .tuple #[.agg #[.int .i64 j, .int .i64 0, .int .i64 rev], .int .i64 0]) (by simp only [results, Tryz.results83]; go_simp) rfl ⟨by rw [HS2.out]; rfl, ?_⟩
        have := X3.out; (repeat (first | (with_reducible exact Ext.refl _) | (with_reducible assumption) | (with_reducible refine Ext.alloc ?_ _) | ((with_reducible refine Ext.setp ?_ ?_); focus (dsimp only; omega)) | (with_reducible refine Ext.drew ?_) | (with_reducible refine Ext.drewN ?_ _) | (with_reducible refine Ext.trans ?_ (by assumption))))
    · skip
      rw [nextS_m h0 hme]
      obtain ⟨c, hcc⟩ : ∃ x, x = memE age rev := ⟨_, rfl⟩
      rw [← hcc] at hcm hme ⊢
      have hb : (c != 0) = true := by simpa using hme
      have HK := Lib.hid hck; have HCM := Lib.hid hcm
      clear hck hcm hcc hme h0
      go_enter Tryz.func83, Tryz.ntmps83
      go_wp2_with fail
      refine (HK.out _ (w.heap.size + 1 + 1) (H.out.ext X0.out) G0.out).mono ?_
      rintro e w1 ⟨rfl, hx1⟩
      have B1 := Lib.hid (B0.out.ext hx1); have R1 := Lib.hid (R0.out.ext hx1); have X1 := Lib.hid (X0.out.trans hx1)
      clear hx1
      have c0 := B1.out.cell; have f0 := B1.out.free; have l0 := B1.out.lt; have c1 := R1.out.cell; have f1 := R1.out.free; have l1 := R1.out.lt
      go_wp2_with fail
      refine (HCM.out _).mono ?_
      rintro e w9 ⟨rfl, hx2⟩
      have B := Lib.hid (B1.out.ext hx2); have R := Lib.hid (R1.out.ext hx2); have X := Lib.hid (X1.out.trans hx2)
      clear hx2
      clear c0 f0 l0 c1 f1 l1
      have c0 := B.out.cell; have f0 := B.out.free; have l0 := B.out.lt; have c1 := R.out.cell; have f1 := R.out.free; have l1 := R.out.lt
      go_wp2_with fail
      refine bodyPost_ret (v := .tuple #[.agg #[.int .i64 0, .int .i64 0, .int .i64 0], .int .i64 c]) (by simp only [results, Tryz.results83]; go_simp) rfl ⟨rfl, ?_⟩
      have := X.out; (repeat (first | (with_reducible exact Ext.refl _) | (with_reducible assumption) | (with_reducible refine Ext.alloc ?_ _) | ((with_reducible refine Ext.setp ?_ ?_); focus (dsimp only; omega)) | (with_reducible refine Ext.drew ?_) | (with_reducible refine Ext.drewN ?_ _) | (with_reducible refine Ext.trans ?_ (by assumption))))
  · skip
    rw [nextS_e h0]
    obtain ⟨c, hcc⟩ : ∃ x, x = cn2 l now b := ⟨_, rfl⟩
    rw [← hcc] at hck h0 ⊢
    have hb : (c != 0) = true := by simpa using h0
    have HK := Lib.hid hck
    clear hck hcm hcc h0
    go_enter Tryz.func83, Tryz.ntmps83
    go_wp2_with fail
    refine (HK.out _ (w.heap.size + 1 + 1) (H.out.ext X0.out) G0.out).mono ?_
    rintro e w1 ⟨rfl, hx1⟩
    have B := Lib.hid (B0.out.ext hx1); have R := Lib.hid (R0.out.ext hx1); have X := Lib.hid (X0.out.trans hx1)
    clear hx1
    have c0 := B.out.cell; have f0 := B.out.free; have l0 := B.out.lt; have c1 := R.out.cell; have f1 := R.out.free; have l1 := R.out.lt
    go_wp2_with fail
    refine bodyPost_ret (v := .tuple #[.agg #[.int .i64 0, .int .i64 0, .int .i64 0], .int .i64 c]) (by simp only [results, Tryz.results83]; go_simp) rfl ⟨rfl, ?_⟩
    have := X.out; (repeat (first | (with_reducible exact Ext.refl _) | (with_reducible assumption) | (with_reducible refine Ext.alloc ?_ _) | ((with_reducible refine Ext.setp ?_ ?_); focus (dsimp only; omega)) | (with_reducible refine Ext.drew ?_) | (with_reducible refine Ext.drewN ?_ _) | (with_reducible refine Ext.trans ?_ (by assumption))))

set_option maxHeartbeats 4000000 in
theorem refNext_any (v : Value) (l : List Bnd) (now age rev b : Int) (w : World) (h : RdBnd w v l) (g1 : -9223372036854775808 ≤ age) (g2 : -9223372036854775808 ≤ rev) :
    Calls Tryz.prog 89 #[v, .agg #[.int .i64 now, .int .i64 age, .int .i64 rev], .int .i64 b] w fun e w' => e = .returned (.tuple #[memW (nextS l now age rev b).1, .int .i64 (nextS l now age rev b).2]) ∧ Ext w w' := by
  have h0 := h
  obtain ⟨a, cap, rfl, hc, hm, _⟩ := h.get
  have H := Lib.hid h0
  clear h h0
  have hB : Blk ((w.alloc (.cells #[.int .i64 now, .int .i64 age, .int .i64 rev] 47)).alloc (.cells #[.int .i64 0, .int .i64 0, .int .i64 0] 47)) w.heap.size #[.int .i64 now, .int .i64 age, .int .i64 rev] 47 := (Blk.new w #[.int .i64 now, .int .i64 age, .int .i64 rev] 47).alloc _
  have hR : Blk ((w.alloc (.cells #[.int .i64 now, .int .i64 age, .int .i64 rev] 47)).alloc (.cells #[.int .i64 0, .int .i64 0, .int .i64 0] 47)) (w.heap.size + 1) #[.int .i64 0, .int .i64 0, .int .i64 0] 47 := by
    have := Blk.new (w.alloc (.cells #[.int .i64 now, .int .i64 age, .int .i64 rev] 47)) #[.int .i64 0, .int .i64 0, .int .i64 0] 47
    rwa [World.size_alloc] at this
  have hX : Ext w ((w.alloc (.cells #[.int .i64 now, .int .i64 age, .int .i64 rev] 47)).alloc (.cells #[.int .i64 0, .int .i64 0, .int .i64 0] 47)) := ((Ext.refl w).alloc _).alloc _
  have hXX := Lib.hid hX; have hBB := Lib.hid hB; have hRR := Lib.hid hR
  clear hB hR hX
  have B0 := hBB; have R0 := hRR; have X0 := hXX
  clear hBB hRR hXX
  have hmm := fun W h => memory_any (.slice a l.length cap) l now age rev W h
  have hib := fun W => is_any a l.length cap b W
  have hw1 := fun W => within_any age 1000 W
  have hw2 := fun W => within_any rev 100 W
  have herr : cn1 l now ≠ 0 → nextS l now age rev b = ((0, 0, 0), cn1 l now) := fun h => by
    have : cn2 l now b = cn1 l now := by
      by_cases ha : achk l = 0
      · have h2 : ¬ (0 ≤ now ∧ now < l.length) := fun h2 => h (cn1_ok ha h2)
        rw [cn1_8 ha h2, cn2_8 ha (fun h3 => h2 h3.1)]
      · rw [cn1_a ha, cn2_a ha]
    rw [nextS_e (by rw [this]; exact h), this]
  by_cases h0 : cn1 l now = 0
  · skip
    rw [h0] at hmm
    obtain ⟨hac, i, rfl, hi⟩ := cn1_0 h0
    clear herr h0
    by_cases h1 : 0 ≤ b ∧ b < l.length
    · skip
      rw [decide_eq_true h1] at hib
      obtain ⟨j, rfl⟩ := Int.eq_ofNat_of_zero_le h1.1
      have hj : j < l.length := by omega
      have hc2 : cn2 l i j = 0 := cn2_ok hac (by omega)
      clear h1
      by_cases q1 : 0 ≤ age ∧ age ≤ 1000
      · skip
        rw [decide_eq_true q1] at hw1
        by_cases q2 : 0 ≤ rev ∧ rev ≤ 100
        · skip
          rw [decide_eq_true q2] at hw2
          have hns := nextS_0 (age := age) (rev := rev) hac hi hj (if_neg (by omega))
          have hch := fun W h => refChange_any (.slice a l.length cap) l i j W h hi hj
          obtain ⟨K, hK⟩ : ∃ x, x = chg l i j := ⟨_, rfl⟩
          rw [← hK] at hns hch
          have hmb : 0 ≤ age ∧ age ≤ 1000 ∧ 0 ≤ rev ∧ rev ≤ 100 := by omega
          have HME := Lib.hid hmb; have HMM := Lib.hid hmm; have HIB := Lib.hid hib; have HW1 := Lib.hid hw1; have HW2 := Lib.hid hw2; have HCH := Lib.hid hch; have HS := Lib.hid hns
          clear hmb hmm hib hw1 hw2 hch hns hK hac hi hj q1 q2 g1 g2 hc2
          go_enter Tryz.func89, Tryz.ntmps89
          go_wp2_with fail
          refine (HMM.out _ (H.out.ext X0.out)).mono ?_
          rintro e w9 ⟨rfl, hx1⟩
          have B := Lib.hid (B0.out.ext hx1); have R := Lib.hid (R0.out.ext hx1); have X := Lib.hid (X0.out.trans hx1)
          clear hx1
          have c0 := B.out.cell; have f0 := B.out.free; have l0 := B.out.lt; have c1 := R.out.cell; have f1 := R.out.free; have l1 := R.out.lt
          go_wp2_with fail
          refine (HIB.out _).mono ?_
          rintro e w9 ⟨rfl, rfl⟩
          go_wp2_with fail
          refine (HW1.out _).mono ?_
          rintro e w9 ⟨rfl, rfl⟩
          go_wp2_with fail
          refine (HW2.out _).mono ?_
          rintro e w9 ⟨rfl, rfl⟩
          go_wp2_with fail
          have bn := Blk.new w9 #[.int .i64 j, .int .i64 0, .int .i64 rev] 47
          have xn : Ext w9 (w9.alloc (.cells #[.int .i64 j, .int .i64 0, .int .i64 rev] 47)) := (Ext.refl _).alloc _
          have B2 := Lib.hid (B.out.ext xn); have R2 := Lib.hid (R.out.ext xn); have X2 := Lib.hid (X.out.trans xn)
          refine (HCH.out _ (H.out.ext X2.out)).mono ?_
          rintro e w3 ⟨rfl, hx3⟩
          have N3 := Lib.hid (bn.ext hx3); have B3 := Lib.hid (B2.out.ext hx3); have R3 := Lib.hid (R2.out.ext hx3); have X3 := Lib.hid (X2.out.trans hx3)
          have z9 := Lib.hid X.out.size; have zl := Lib.hid l1
          clear bn xn hx3
          clear c0 f0 l0 c1 f1 l1
          have zl := zl.out
          obtain ⟨g, hg⟩ : ∃ x, x = w9.heap.size := ⟨_, rfl⟩
          rw [← hg] at N3 zl ⊢
          have ne1 : g ≠ w.heap.size := by omega
          have ne2 : g ≠ w.heap.size + 1 := by omega
          have gz : w.heap.size ≤ g := by omega
          clear zl hg
          have c0 := B3.out.cell; have f0 := B3.out.free; have l0 := B3.out.lt; have c1 := R3.out.cell; have f1 := R3.out.free; have l1 := R3.out.lt
          have c2 := N3.out.cell; have f2 := N3.out.free; have l2 := N3.out.lt
          by_cases k1 : K = 1
          · subst k1
            have HN2 := HS.out
            have ev : nextV 1 age rev j = ((j : Int), ((if age + 1 ≤ 1000 then age + 1 else 1000)), rev) := rfl
            rw [ev] at HN2
            have HS2 := Lib.hid HN2
            clear HN2 ev
            have hw : wrap64 (age + 1) = age + 1 := by unfold wrap64; have := HME.out; omega
            by_cases hmin : age + 1 ≤ 1000
            · skip
              have HS3 := HS2.out
              rw [if_pos hmin] at HS3
              have HS3 := Lib.hid HS3
              have n4 : Blk (w3.setCell ⟨g, 1, none⟩ (.int .i64 (age + 1))) g #[.int .i64 j, .int .i64 (age + 1), .int .i64 rev] 47 := by
                have := N3.out.set 1 (.int .i64 (age + 1)); simpa using this
              have r4 := R3.out.setOther (a := ⟨g, 1, none⟩) (Ne.symm ne2) (.int .i64 (age + 1))
              have d2 := n4.cell; have e2 := n4.free; have d1 := r4.cell; have e1 := r4.free
              clear n4 r4
              go_wp2_with fail
              all_goals
                refine bodyPost_ret (v := .tuple #[.agg #[.int .i64 j, .int .i64 (age + 1), .int .i64 rev], .int .i64 0]) (by simp only [results, Tryz.results89]; go_simp) rfl ⟨by rw [HS3.out]; rfl, ?_⟩
                have := X3.out; (repeat (first | (with_reducible exact Ext.refl _) | (with_reducible assumption) | (with_reducible refine Ext.alloc ?_ _) | ((with_reducible refine Ext.setp ?_ ?_); focus (dsimp only; omega)) | (with_reducible refine Ext.drew ?_) | (with_reducible refine Ext.drewN ?_ _) | (with_reducible refine Ext.trans ?_ (by assumption))))
            · skip
              have HS3 := HS2.out
              rw [if_neg hmin] at HS3
              have HS3 := Lib.hid HS3
              have n4 : Blk (w3.setCell ⟨g, 1, none⟩ (.int .i64 1000)) g #[.int .i64 j, .int .i64 1000, .int .i64 rev] 47 := by
                have := N3.out.set 1 (.int .i64 1000); simpa using this
              have r4 := R3.out.setOther (a := ⟨g, 1, none⟩) (Ne.symm ne2) (.int .i64 1000)
              have d2 := n4.cell; have e2 := n4.free; have d1 := r4.cell; have e1 := r4.free
              clear n4 r4
              go_wp2_with fail
              all_goals
                refine bodyPost_ret (v := .tuple #[.agg #[.int .i64 j, .int .i64 1000, .int .i64 rev], .int .i64 0]) (by simp only [results, Tryz.results89]; go_simp) rfl ⟨by rw [HS3.out]; rfl, ?_⟩
                have := X3.out; (repeat (first | (with_reducible exact Ext.refl _) | (with_reducible assumption) | (with_reducible refine Ext.alloc ?_ _) | ((with_reducible refine Ext.setp ?_ ?_); focus (dsimp only; omega)) | (with_reducible refine Ext.drew ?_) | (with_reducible refine Ext.drewN ?_ _) | (with_reducible refine Ext.trans ?_ (by assumption))))
          by_cases k2 : K = 2
          · subst k2
            have HN2 := HS.out
            have ev : nextV 2 age rev j = ((j : Int), 0, 0) := rfl
            rw [ev] at HN2
            have HS2 := Lib.hid HN2
            clear HN2 ev
            have n4 : Blk (w3.setCell ⟨g, 2, none⟩ (.int .i64 0)) g #[.int .i64 j, .int .i64 0, .int .i64 0] 47 := by
              have := N3.out.set 2 (.int .i64 0); simpa using this
            have r4 := R3.out.setOther (a := ⟨g, 2, none⟩) (Ne.symm ne2) (.int .i64 0)
            have d2 := n4.cell; have e2 := n4.free; have d1 := r4.cell; have e1 := r4.free
            clear n4 r4
            go_wp2_with fail
            all_goals
              refine bodyPost_ret (v := .tuple #[.agg #[.int .i64 j, .int .i64 0, .int .i64 0], .int .i64 0]) (by simp only [results, Tryz.results89]; go_simp) rfl ⟨by rw [HS2.out]; rfl, ?_⟩
              have := X3.out; (repeat (first | (with_reducible exact Ext.refl _) | (with_reducible assumption) | (with_reducible refine Ext.alloc ?_ _) | ((with_reducible refine Ext.setp ?_ ?_); focus (dsimp only; omega)) | (with_reducible refine Ext.drew ?_) | (with_reducible refine Ext.drewN ?_ _) | (with_reducible refine Ext.trans ?_ (by assumption))))
          by_cases k3 : K = 3
          · subst k3
            have HN2 := HS.out
            have ev : nextV 3 age rev j = ((j : Int), 0, 0) := rfl
            rw [ev] at HN2
            have HS2 := Lib.hid HN2
            clear HN2 ev
            have n4 : Blk (w3.setCell ⟨g, 2, none⟩ (.int .i64 0)) g #[.int .i64 j, .int .i64 0, .int .i64 0] 47 := by
              have := N3.out.set 2 (.int .i64 0); simpa using this
            have r4 := R3.out.setOther (a := ⟨g, 2, none⟩) (Ne.symm ne2) (.int .i64 0)
            have d2 := n4.cell; have e2 := n4.free; have d1 := r4.cell; have e1 := r4.free
            clear n4 r4
            go_wp2_with fail
            all_goals
              refine bodyPost_ret (v := .tuple #[.agg #[.int .i64 j, .int .i64 0, .int .i64 0], .int .i64 0]) (by simp only [results, Tryz.results89]; go_simp) rfl ⟨by rw [HS2.out]; rfl, ?_⟩
              have := X3.out; (repeat (first | (with_reducible exact Ext.refl _) | (with_reducible assumption) | (with_reducible refine Ext.alloc ?_ _) | ((with_reducible refine Ext.setp ?_ ?_); focus (dsimp only; omega)) | (with_reducible refine Ext.drew ?_) | (with_reducible refine Ext.drewN ?_ _) | (with_reducible refine Ext.trans ?_ (by assumption))))
          by_cases k4 : K = 4
          · subst k4
            have HN2 := HS.out
            have ev : nextV 4 age rev j = ((j : Int), 0, (if rev + 1 ≤ 100 then rev + 1 else 100)) := rfl
            rw [ev] at HN2
            have HS2 := Lib.hid HN2
            clear HN2 ev
            have hw : wrap64 (rev + 1) = rev + 1 := by unfold wrap64; have := HME.out; omega
            by_cases hmin : rev + 1 ≤ 100
            · skip
              have HS3 := HS2.out
              rw [if_pos hmin] at HS3
              have HS3 := Lib.hid HS3
              have n4 : Blk (w3.setCell ⟨g, 2, none⟩ (.int .i64 (rev + 1))) g #[.int .i64 j, .int .i64 0, .int .i64 (rev + 1)] 47 := by
                have := N3.out.set 2 (.int .i64 (rev + 1)); simpa using this
              have r4 := R3.out.setOther (a := ⟨g, 2, none⟩) (Ne.symm ne2) (.int .i64 (rev + 1))
              have d2 := n4.cell; have e2 := n4.free; have d1 := r4.cell; have e1 := r4.free
              clear n4 r4
              go_wp2_with fail
              all_goals
                refine bodyPost_ret (v := .tuple #[.agg #[.int .i64 j, .int .i64 0, .int .i64 (rev + 1)], .int .i64 0]) (by simp only [results, Tryz.results89]; go_simp) rfl ⟨by rw [HS3.out]; rfl, ?_⟩
                have := X3.out; (repeat (first | (with_reducible exact Ext.refl _) | (with_reducible assumption) | (with_reducible refine Ext.alloc ?_ _) | ((with_reducible refine Ext.setp ?_ ?_); focus (dsimp only; omega)) | (with_reducible refine Ext.drew ?_) | (with_reducible refine Ext.drewN ?_ _) | (with_reducible refine Ext.trans ?_ (by assumption))))
            · skip
              have HS3 := HS2.out
              rw [if_neg hmin] at HS3
              have HS3 := Lib.hid HS3
              have n4 : Blk (w3.setCell ⟨g, 2, none⟩ (.int .i64 100)) g #[.int .i64 j, .int .i64 0, .int .i64 100] 47 := by
                have := N3.out.set 2 (.int .i64 100); simpa using this
              have r4 := R3.out.setOther (a := ⟨g, 2, none⟩) (Ne.symm ne2) (.int .i64 100)
              have d2 := n4.cell; have e2 := n4.free; have d1 := r4.cell; have e1 := r4.free
              clear n4 r4
              go_wp2_with fail
              all_goals
                refine bodyPost_ret (v := .tuple #[.agg #[.int .i64 j, .int .i64 0, .int .i64 100], .int .i64 0]) (by simp only [results, Tryz.results89]; go_simp) rfl ⟨by rw [HS3.out]; rfl, ?_⟩
                have := X3.out; (repeat (first | (with_reducible exact Ext.refl _) | (with_reducible assumption) | (with_reducible refine Ext.alloc ?_ _) | ((with_reducible refine Ext.setp ?_ ?_); focus (dsimp only; omega)) | (with_reducible refine Ext.drew ?_) | (with_reducible refine Ext.drewN ?_ _) | (with_reducible refine Ext.trans ?_ (by assumption))))
          have HN2 := HS.out
          have q1 : (K == 1) = false := by simpa using k1
          have q2 : (K == 2) = false := by simpa using k2
          have q3 : (K == 3) = false := by simpa using k3
          have q4 : (K == 4) = false := by simpa using k4
          have ev : nextV K age rev j = ((j : Int), 0, rev) := by unfold nextV; rw [if_neg k1, if_neg (by omega), if_neg k4]
          rw [ev] at HN2
          have HS2 := Lib.hid HN2
          clear HN2 ev k1 k2 k3 k4
          go_wp2_with fail
          all_goals
            refine bodyPost_ret (v := .tuple #[.agg #[.int .i64 j, .int .i64 0, .int .i64 rev], .int .i64 0]) (by simp only [results, Tryz.results89]; go_simp) rfl ⟨by rw [HS2.out]; rfl, ?_⟩
            have := X3.out; (repeat (first | (with_reducible exact Ext.refl _) | (with_reducible assumption) | (with_reducible refine Ext.alloc ?_ _) | ((with_reducible refine Ext.setp ?_ ?_); focus (dsimp only; omega)) | (with_reducible refine Ext.drew ?_) | (with_reducible refine Ext.drewN ?_ _) | (with_reducible refine Ext.trans ?_ (by assumption))))
        · skip
          have hme : memE age rev = 1 := if_pos (by omega)
          rw [nextS_m hc2 (by rw [hme]; decide), hme]
          rw [decide_eq_false q2] at hw2
          have HMM := Lib.hid hmm; have HIB := Lib.hid hib; have HW1 := Lib.hid hw1; have HW2 := Lib.hid hw2
          clear hmm hib hw1 hw2 hac hi hj q1 q2 g1 g2 hc2 hme
          go_enter Tryz.func89, Tryz.ntmps89
          go_wp2_with fail
          refine (HMM.out _ (H.out.ext X0.out)).mono ?_
          rintro e w9 ⟨rfl, hx1⟩
          have B := Lib.hid (B0.out.ext hx1); have R := Lib.hid (R0.out.ext hx1); have X := Lib.hid (X0.out.trans hx1)
          clear hx1
          have c0 := B.out.cell; have f0 := B.out.free; have l0 := B.out.lt; have c1 := R.out.cell; have f1 := R.out.free; have l1 := R.out.lt
          go_wp2_with fail
          refine (HIB.out _).mono ?_
          rintro e w9 ⟨rfl, rfl⟩
          go_wp2_with fail
          refine (HW1.out _).mono ?_
          rintro e w9 ⟨rfl, rfl⟩
          go_wp2_with fail
          refine (HW2.out _).mono ?_
          rintro e w9 ⟨rfl, rfl⟩
          go_wp2_with fail
          refine bodyPost_ret (v := .tuple #[.agg #[.int .i64 0, .int .i64 0, .int .i64 0], .int .i64 1]) (by simp only [results, Tryz.results89]; go_simp) rfl ⟨rfl, ?_⟩
          have := X.out; (repeat (first | (with_reducible exact Ext.refl _) | (with_reducible assumption) | (with_reducible refine Ext.alloc ?_ _) | ((with_reducible refine Ext.setp ?_ ?_); focus (dsimp only; omega)) | (with_reducible refine Ext.drew ?_) | (with_reducible refine Ext.drewN ?_ _) | (with_reducible refine Ext.trans ?_ (by assumption))))
      · skip
        have hme : memE age rev = 1 := if_pos (by omega)
        rw [nextS_m hc2 (by rw [hme]; decide), hme]
        rw [decide_eq_false q1] at hw1
        have HMM := Lib.hid hmm; have HIB := Lib.hid hib; have HW1 := Lib.hid hw1
        clear hmm hib hw1 hw2 hac hi hj q1 g1 g2 hc2 hme
        go_enter Tryz.func89, Tryz.ntmps89
        go_wp2_with fail
        refine (HMM.out _ (H.out.ext X0.out)).mono ?_
        rintro e w9 ⟨rfl, hx1⟩
        have B := Lib.hid (B0.out.ext hx1); have R := Lib.hid (R0.out.ext hx1); have X := Lib.hid (X0.out.trans hx1)
        clear hx1
        have c0 := B.out.cell; have f0 := B.out.free; have l0 := B.out.lt; have c1 := R.out.cell; have f1 := R.out.free; have l1 := R.out.lt
        go_wp2_with fail
        refine (HIB.out _).mono ?_
        rintro e w9 ⟨rfl, rfl⟩
        go_wp2_with fail
        refine (HW1.out _).mono ?_
        rintro e w9 ⟨rfl, rfl⟩
        go_wp2_with fail
        refine bodyPost_ret (v := .tuple #[.agg #[.int .i64 0, .int .i64 0, .int .i64 0], .int .i64 1]) (by simp only [results, Tryz.results89]; go_simp) rfl ⟨rfl, ?_⟩
        have := X.out; (repeat (first | (with_reducible exact Ext.refl _) | (with_reducible assumption) | (with_reducible refine Ext.alloc ?_ _) | ((with_reducible refine Ext.setp ?_ ?_); focus (dsimp only; omega)) | (with_reducible refine Ext.drew ?_) | (with_reducible refine Ext.drewN ?_ _) | (with_reducible refine Ext.trans ?_ (by assumption))))
    · skip
      have h8 : cn2 l i b = 8 := cn2_8 hac (fun h => h1 h.2)
      rw [nextS_e (by rw [h8]; decide), h8]
      rw [decide_eq_false h1] at hib
      have HMM := Lib.hid hmm; have HIB := Lib.hid hib
      clear hmm hib hw1 hw2 hac hi h1 g1 g2 h8
      go_enter Tryz.func89, Tryz.ntmps89
      go_wp2_with fail
      refine (HMM.out _ (H.out.ext X0.out)).mono ?_
      rintro e w9 ⟨rfl, hx1⟩
      have B := Lib.hid (B0.out.ext hx1); have R := Lib.hid (R0.out.ext hx1); have X := Lib.hid (X0.out.trans hx1)
      clear hx1
      have c0 := B.out.cell; have f0 := B.out.free; have l0 := B.out.lt; have c1 := R.out.cell; have f1 := R.out.free; have l1 := R.out.lt
      go_wp2_with fail
      refine (HIB.out _).mono ?_
      rintro e w9 ⟨rfl, rfl⟩
      go_wp2_with fail
      refine bodyPost_ret (v := .tuple #[.agg #[.int .i64 0, .int .i64 0, .int .i64 0], .int .i64 8]) (by simp only [results, Tryz.results89]; go_simp) rfl ⟨rfl, ?_⟩
      have := X.out; (repeat (first | (with_reducible exact Ext.refl _) | (with_reducible assumption) | (with_reducible refine Ext.alloc ?_ _) | ((with_reducible refine Ext.setp ?_ ?_); focus (dsimp only; omega)) | (with_reducible refine Ext.drew ?_) | (with_reducible refine Ext.drewN ?_ _) | (with_reducible refine Ext.trans ?_ (by assumption))))
  · skip
    rw [herr h0]
    obtain ⟨c, hcc⟩ : ∃ x, x = cn1 l now := ⟨_, rfl⟩
    rw [← hcc] at hmm h0 ⊢
    have hb : (c != 0) = true := by simpa using h0
    have hb2 : (c == 0) = false := by simpa using h0
    have HMM := Lib.hid hmm
    clear herr hcc h0 hmm hib hw1 hw2 g1 g2
    go_enter Tryz.func89, Tryz.ntmps89
    go_wp2_with fail
    refine (HMM.out _ (H.out.ext X0.out)).mono ?_
    rintro e w9 ⟨rfl, hx1⟩
    have B := Lib.hid (B0.out.ext hx1); have R := Lib.hid (R0.out.ext hx1); have X := Lib.hid (X0.out.trans hx1)
    clear hx1
    have c0 := B.out.cell; have f0 := B.out.free; have l0 := B.out.lt; have c1 := R.out.cell; have f1 := R.out.free; have l1 := R.out.lt
    go_wp2_with fail
    refine bodyPost_ret (v := .tuple #[.agg #[.int .i64 0, .int .i64 0, .int .i64 0], .int .i64 c]) (by simp only [results, Tryz.results89]; go_simp) rfl ⟨rfl, ?_⟩
    have := X.out; (repeat (first | (with_reducible exact Ext.refl _) | (with_reducible assumption) | (with_reducible refine Ext.alloc ?_ _) | ((with_reducible refine Ext.setp ?_ ?_); focus (dsimp only; omega)) | (with_reducible refine Ext.drew ?_) | (with_reducible refine Ext.drewN ?_ _) | (with_reducible refine Ext.trans ?_ (by assumption))))

end Go.Proofs.YthkfkfbfblppeaaGreat
