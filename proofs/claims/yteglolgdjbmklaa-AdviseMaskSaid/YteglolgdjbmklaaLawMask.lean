/- The law AdviseMask answers true (written by mkmask28.py). Conditions: the case reads. -/
import Derived.Test.YteglolgdjbmklaaAdvAw
import Derived.Test.YteglolgdjbmklaaLongC
import Derived.Test.YteglolgdjbmklaaBest
import Derived.Test.YteglolgdjbmklaaArgR
namespace Go.Proofs.Yteglolgdjbmklaa
set_option linter.unusedSimpArgs false
set_option linter.unusedVariables false
open Go.RowKit

set_option maxRecDepth 100000 in
set_option maxHeartbeats 8000000 in
theorem mask28_any (v : Value) (l : List Bnd) (now age rev : Int) (costs : List RR) (mask : List Bool) (lr lh : Int) (w : World) (h : RdCase w v l now age rev costs mask lr lh) :
    Calls Try.prog 8 #[v] w fun e w' => e = .returned (.bool true) ∧ Ext w w' := by
  obtain ⟨vl, vc, vm, rfl, hl, hc, hm, hlim, -, ga, gr, -, -⟩ := h
  replace hl : RdBnd w vl l := hl
  have HL := Lib.hid hl; have HC := Lib.hid hc; have HM := Lib.hid hm; have HLM := Lib.hid hlim
  have hlo := fun W (x : Ext w W) => longC_any vl vc vm l now age rev costs mask lr lh W (hl.ext x) (hc.ext x) (hm.ext x)
  have hch := fun W (x : Ext w W) => choose_any vl vc vm l now age rev costs mask lr lh W (hl.ext x) (hc.ext x) (hm.ext x) hlim ga.1 gr.1
  have hal := fun W h => allowed_any vl l now age rev lr lh W h
  obtain ⟨al, cl, rfl, hlc, hlm1, -⟩ := hl.get
  obtain ⟨ac, cc, rfl, hcc, hcm, f, hr⟩ := hc.get
  obtain ⟨am, cm, rfl, hmc, hmm, hmr⟩ := rdB_get hm
  have HMR := Lib.hid hmr
  clear hl hc hm hlim hmr
  obtain ⟨lb, hlb⟩ : ∃ x, x = longB l costs mask := ⟨_, rfl⟩
  rw [← hlb] at hlo
  have HLO := Lib.hid hlo; have HLB := Lib.hid hlb; have HAL := Lib.hid hal; have HR := Lib.hid hr
  clear hlo hlb hal hr
  have bb0 := (Blk.new w #[.slice al l.length cl, .int .i64 now, .int .i64 age, .int .i64 rev, .slice ac costs.length cc, .slice am mask.length cm, .int .i64 lr, .int .i64 lh] 30)
  have x0 : Ext w (w.alloc (.cells #[.slice al l.length cl, .int .i64 now, .int .i64 age, .int .i64 rev, .slice ac costs.length cc, .slice am mask.length cm, .int .i64 lr, .int .i64 lh] 30)) := ((Ext.refl w).alloc _)
  have A0 := Lib.hid bb0; have X := Lib.hid x0
  clear x0 bb0
  have HL := Lib.hid (HL.out.ext X.out); have HM := Lib.hid (HM.out.ext X.out); have HC := Lib.hid (HC.out.ext X.out)
  have qA0 := A0.out.cell; have fA0 := A0.out.free; have lA0 := A0.out.lt
  cases lb
  · obtain ⟨g1, g2, g3⟩ := longB_0 HLB.out.symm; clear g3
    rcases chooseS_law (l := l) (now := now) (age := age) (rev := rev) (costs := costs) (mask := mask) (lr := lr) (lh := lh) with ⟨hne, x, hx0⟩ | ⟨hS, hc1, hc2, hc3, b, hb, hS2⟩
    · rw [hx0] at hne
      simp only [hx0, ResC, show zR.neg = false from rfl, show zR.num = [] from rfl, show zR.den = [] from rfl] at hch
      dsimp only at hne
      have q0 : (x == 0) = false := by simpa using hne
      have HCH := Lib.hid hch
      obtain ⟨S, hS⟩ : ∃ S, S = allowS l now age rev lr lh := ⟨_, rfl⟩
      rw [← hS] at HAL
      obtain ⟨s1, s2⟩ := S
      clear hne hch hx0 hS
      go_enter Try.func8, Try.ntmps8
      go_wp2_with fail
      refine (HLO.out _ X.out).mono ?_
      rintro e w1 ⟨rfl, hx⟩
      clear qA0 fA0 lA0
      have HL := Lib.hid (HL.out.ext hx); have HM := Lib.hid (HM.out.ext hx); have HC := Lib.hid (HC.out.ext hx); have A0 := Lib.hid (A0.out.ext hx); have X := Lib.hid (X.out.trans hx)
      clear hx
      have qA0 := A0.out.cell; have fA0 := A0.out.free; have lA0 := A0.out.lt
      go_wp2_with fail
      refine (awake28_any _).mono ?_
      rintro e w2 ⟨rfl, hx⟩
      clear qA0 fA0 lA0
      have HL := Lib.hid (HL.out.ext hx); have HM := Lib.hid (HM.out.ext hx); have HC := Lib.hid (HC.out.ext hx); have A0 := Lib.hid (A0.out.ext hx); have X := Lib.hid (X.out.trans hx)
      clear hx
      have qA0 := A0.out.cell; have fA0 := A0.out.free; have lA0 := A0.out.lt
      go_wp2_with fail
      refine (HCH.out _ X.out).mono ?_
      rintro e w3 ⟨⟨vn, vd, rfl, nn1, nn2⟩, hx⟩
      clear qA0 fA0 lA0
      have HL := Lib.hid (HL.out.ext hx); have HM := Lib.hid (HM.out.ext hx); have HC := Lib.hid (HC.out.ext hx); have A0 := Lib.hid (A0.out.ext hx); have X := Lib.hid (X.out.trans hx)
      obtain ⟨n1, n2, rfl⟩ := nn1.shape; obtain ⟨d1, d2, rfl⟩ := nn2.shape; rw [List.length_nil]; clear nn1 nn2 hx
      have qA0 := A0.out.cell; have fA0 := A0.out.free; have lA0 := A0.out.lt
      go_wp2_with fail
      clear qA0 fA0 lA0
      have hxa : Ext w3 ((w3.alloc (.cells #[.int .i64 0, .int .u8 0, .bool false, .slice n1 0 n2, .slice d1 0 d2] 72)).alloc (.cells #[.int .i64 0, .int .i64 0, .int .i64 0] 24)) := ((Ext.refl _).alloc _).alloc _
      have hd := (Blk.new w3 #[.int .i64 0, .int .u8 0, .bool false, .slice n1 0 n2, .slice d1 0 d2] 72).alloc (.cells #[.int .i64 0, .int .i64 0, .int .i64 0] 24)
      have hm2 := Blk.new (w3.alloc (.cells #[.int .i64 0, .int .u8 0, .bool false, .slice n1 0 n2, .slice d1 0 d2] 72)) #[.int .i64 0, .int .i64 0, .int .i64 0] 24
      rw [World.size_alloc] at hm2
      obtain ⟨Dn, hDn⟩ : ∃ n, n = w3.heap.size := ⟨_, rfl⟩
      rw [← hDn] at hd hm2 ⊢
      obtain ⟨w4, hw4⟩ : ∃ W, W = (w3.alloc (.cells #[.int .i64 0, .int .u8 0, .bool false, .slice n1 0 n2, .slice d1 0 d2] 72)).alloc (.cells #[.int .i64 0, .int .i64 0, .int .i64 0] 24) := ⟨_, rfl⟩
      rw [← hw4] at hxa hd hm2 ⊢; clear hw4 hDn
      have HL := Lib.hid (HL.out.ext hxa); have HM := Lib.hid (HM.out.ext hxa); have HC := Lib.hid (HC.out.ext hxa); have A0 := Lib.hid (A0.out.ext hxa); have X := Lib.hid (X.out.trans hxa)
      have BD := Lib.hid hd; have BE := Lib.hid hm2; clear hxa hd hm2
      refine (HAL.out _ HL.out).mono ?_
      rintro e w5 ⟨⟨vmay, rfl, hown⟩, hx⟩
      have HL := Lib.hid (HL.out.ext hx); have HM := Lib.hid (HM.out.ext hx); have HC := Lib.hid (HC.out.ext hx); have A0 := Lib.hid (A0.out.ext hx); have BD := Lib.hid (BD.out.ext hx); have BE := Lib.hid (BE.out.ext hx); have X := Lib.hid (X.out.trans hx)
      have RB := Lib.hid (OwBo.rd hown)
      obtain ⟨ab, cb, rfl, hbc1, hbc2, -⟩ := rdB_get RB.out
      clear hown hx
      have qA0 := A0.out.cell; have fA0 := A0.out.free; have lA0 := A0.out.lt; have qBD := BD.out.cell; have fBD := BD.out.free; have lBD := BD.out.lt; have qBE := BE.out.cell; have fBE := BE.out.free; have lBE := BE.out.lt
      have hE : ∀ W, (binOp .eql 24 (.agg #[.int .i64 0, .int .i64 0, .int .i64 0]) (.agg #[.int .i64 0, .int .i64 0, .int .i64 0])).run Try.prog W = .ok (.bool true) W := fun W => by rw [eqMem, beqD_self]
      go_wp2_with fail
      go_ret
      exact ⟨rfl, X.out⟩
    · have hS0 := allowS_0 hS
      obtain ⟨hac, ⟨ni, rfl, hni⟩, hme, -, hal1⟩ := hS0
      obtain ⟨hbl, hmb, hall⟩ := bestC_law (chkRs_0 hc3) hb
      have hbl2 : b < l.length := by omega
      have hslen : (allowS l ni age rev lr lh).1.length = l.length := by rw [hal1, allowL_len]
      have hk1 := fun W h => kind_any (.slice al l.length cl) l ni b W h
      rw [kindS_0 hac hni hbl2] at hk1
      have hnx := fun W h => next_any (.slice al l.length cl) l ni age rev b W h ga.1 gr.1
      rw [nextS_0 (age := age) (rev := rev) hac hni hbl2 hme] at hnx
      simp only [hS2, ResC] at hch
      have hal := HAL.out
      rw [hS] at hal
      obtain ⟨sv, hsv⟩ : ∃ s, s = (allowS l ni age rev lr lh).1 := ⟨_, rfl⟩
      rw [← hsv] at hal hslen hall
      obtain ⟨r, hrr⟩ : ∃ r, r = costs.getD b zR := ⟨_, rfl⟩
      obtain ⟨K, hK⟩ : ∃ K, K = chg l ni b := ⟨_, rfl⟩
      simp only [Int.toNat_natCast, ← hrr, ← hK] at hch hk1 hall hnx
      obtain ⟨nv, hnv⟩ : ∃ x, x = nextV K age rev (b : Nat) := ⟨_, rfl⟩
      simp only [← hnv] at hch hnx
      obtain ⟨m1, m2, m3⟩ := nv
      unfold memW at hnx
      dsimp only at hnx hch
      have hlb := HLM.out b hbl
      rw [← hrr] at hlb
      have HLK := Lib.hid hlb
      have HALL := Lib.hid hall; have HCH := Lib.hid hch; have HK := Lib.hid hk1; have HNX := Lib.hid hnx; have HAL := Lib.hid hal; have HRR := Lib.hid hrr
      have HMB := Lib.hid hmb
      have HBL := Lib.hid hbl; have HL1 := Lib.hid hc1; have HL2 := Lib.hid hc2; have HL3 := Lib.hid hslen
      have t1 : ((sv.length : Int) != (mask.length : Int)) = false := bne_eq_false_iff_eq.2 (by omega)
      have t2 : ((costs.length : Int) != (mask.length : Int)) = false := bne_eq_false_iff_eq.2 (by omega)
      have t3 : ¬ (b : Int) < 0 := by omega
      have t4 : (b : Int) < (mask.length : Int) := by omega
      have t5 : ¬ (mask.length : Int) ≤ (b : Int) := by omega
      have t6 : (0 : Int) ≤ (b : Int) := by omega
      have t7 : (b : Int) < (costs.length : Int) := by omega
      have t8 : (b : Int) < (sv.length : Int) := by omega
      have t9 : sv.length ≤ 20 := by omega
      obtain ⟨bm, om, rfl, hbm, z0⟩ := HMR.out b (by omega)
      rw [hmb] at z0
      obtain ⟨bb, off, rfl, hbb, x0, x1, x2, hrd⟩ := HR.out b hbl
      obtain ⟨fb, hfb⟩ : ∃ y, y = f b := ⟨_, rfl⟩
      rw [← hrr] at x0 x1 x2 hrd
      rw [← hfb] at x1 x2 hrd
      have HY := Lib.hid (And.intro hbb (And.intro hbm (And.intro z0 (And.intro x0 (And.intro x1 x2)))))
      have HRD := Lib.hid hrd
      clear hbb hbm z0 x0 x1 x2 hrd hfb
      clear hall hch hk1 hnx hal hrr hK hnv hmb hbl hc1 hc2 hc3 hslen hsv hal1 hme hac hni hS hb hS2 hbl2 hlb
      go_enter Try.func8, Try.ntmps8
      go_wp2_with fail
      refine (HLO.out _ X.out).mono ?_
      rintro e w1 ⟨rfl, hx⟩
      clear qA0 fA0 lA0
      have HL := Lib.hid (HL.out.ext hx); have HM := Lib.hid (HM.out.ext hx); have HC := Lib.hid (HC.out.ext hx); have A0 := Lib.hid (A0.out.ext hx); have X := Lib.hid (X.out.trans hx)
      clear hx
      have qA0 := A0.out.cell; have fA0 := A0.out.free; have lA0 := A0.out.lt
      go_wp2_with fail
      refine (awake28_any _).mono ?_
      rintro e w2 ⟨rfl, hx⟩
      clear qA0 fA0 lA0
      have HL := Lib.hid (HL.out.ext hx); have HM := Lib.hid (HM.out.ext hx); have HC := Lib.hid (HC.out.ext hx); have A0 := Lib.hid (A0.out.ext hx); have X := Lib.hid (X.out.trans hx)
      clear hx
      have qA0 := A0.out.cell; have fA0 := A0.out.free; have lA0 := A0.out.lt
      go_wp2_with fail
      refine (HCH.out _ X.out).mono ?_
      rintro e w3 ⟨⟨vn, vd, rfl, nn1, nn2⟩, hx⟩
      clear qA0 fA0 lA0
      have HL := Lib.hid (HL.out.ext hx); have HM := Lib.hid (HM.out.ext hx); have HC := Lib.hid (HC.out.ext hx); have A0 := Lib.hid (A0.out.ext hx); have X := Lib.hid (X.out.trans hx)
      obtain ⟨n1, n2, rfl⟩ := nn1.shape; obtain ⟨d1, d2, rfl⟩ := nn2.shape
      have ND := Lib.hid (show RdR _ (.agg #[.bool r.neg, .slice n1 r.num.length n2, .slice d1 r.den.length d2]) r from ⟨_, _, rfl, nn1.rd, nn2.rd⟩); clear nn1 nn2 hx
      have qA0 := A0.out.cell; have fA0 := A0.out.free; have lA0 := A0.out.lt
      go_wp2_with fail
      clear qA0 fA0 lA0
      have hxa : Ext w3 ((w3.alloc (.cells #[.int .i64 b, .int .u8 K, .bool r.neg, .slice n1 r.num.length n2, .slice d1 r.den.length d2] 72)).alloc (.cells #[.int .i64 m1, .int .i64 m2, .int .i64 m3] 24)) := ((Ext.refl _).alloc _).alloc _
      have hd := (Blk.new w3 #[.int .i64 b, .int .u8 K, .bool r.neg, .slice n1 r.num.length n2, .slice d1 r.den.length d2] 72).alloc (.cells #[.int .i64 m1, .int .i64 m2, .int .i64 m3] 24)
      have hm2 := Blk.new (w3.alloc (.cells #[.int .i64 b, .int .u8 K, .bool r.neg, .slice n1 r.num.length n2, .slice d1 r.den.length d2] 72)) #[.int .i64 m1, .int .i64 m2, .int .i64 m3] 24
      rw [World.size_alloc] at hm2
      obtain ⟨Dn, hDn⟩ : ∃ n, n = w3.heap.size := ⟨_, rfl⟩
      rw [← hDn] at hd hm2 ⊢
      obtain ⟨w4, hw4⟩ : ∃ W, W = (w3.alloc (.cells #[.int .i64 b, .int .u8 K, .bool r.neg, .slice n1 r.num.length n2, .slice d1 r.den.length d2] 72)).alloc (.cells #[.int .i64 m1, .int .i64 m2, .int .i64 m3] 24) := ⟨_, rfl⟩
      rw [← hw4] at hxa hd hm2 ⊢; clear hw4 hDn
      have HL := Lib.hid (HL.out.ext hxa); have HM := Lib.hid (HM.out.ext hxa); have HC := Lib.hid (HC.out.ext hxa); have A0 := Lib.hid (A0.out.ext hxa); have ND := Lib.hid (ND.out.ext hxa); have X := Lib.hid (X.out.trans hxa)
      have BD := Lib.hid hd; have BE := Lib.hid hm2; clear hxa hd hm2
      refine (HAL.out _ HL.out).mono ?_
      rintro e w5 ⟨⟨vmay, rfl, hown⟩, hx⟩
      have HL := Lib.hid (HL.out.ext hx); have HM := Lib.hid (HM.out.ext hx); have HC := Lib.hid (HC.out.ext hx); have A0 := Lib.hid (A0.out.ext hx); have ND := Lib.hid (ND.out.ext hx); have BD := Lib.hid (BD.out.ext hx); have BE := Lib.hid (BE.out.ext hx); have X := Lib.hid (X.out.trans hx)
      have RB := Lib.hid (OwBo.rd hown)
      obtain ⟨ab, cb, rfl, hbc1, hbc2, -⟩ := rdB_get RB.out
      clear hown hx
      have qA0 := A0.out.cell; have fA0 := A0.out.free; have lA0 := A0.out.lt; have qBD := BD.out.cell; have fBD := BD.out.free; have lBD := BD.out.lt; have qBE := BE.out.cell; have fBE := BE.out.free; have lBE := BE.out.lt
      go_wp2_with fail
      refine (HK.out _ HL.out).mono ?_
      rintro e w6 ⟨rfl, hx⟩
      clear qA0 fA0 lA0 qBD fBD lBD qBE fBE lBE
      have HL := Lib.hid (HL.out.ext hx); have HM := Lib.hid (HM.out.ext hx); have HC := Lib.hid (HC.out.ext hx); have A0 := Lib.hid (A0.out.ext hx); have ND := Lib.hid (ND.out.ext hx); have BD := Lib.hid (BD.out.ext hx); have BE := Lib.hid (BE.out.ext hx); have RB := Lib.hid (RB.out.ext hx); have X := Lib.hid (X.out.trans hx)
      clear hx
      have qA0 := A0.out.cell; have fA0 := A0.out.free; have lA0 := A0.out.lt; have qBD := BD.out.cell; have fBD := BD.out.free; have lBD := BD.out.lt; have qBE := BE.out.cell; have fBE := BE.out.free; have lBE := BE.out.lt
      go_wp2_with fail
      refine (HNX.out _ HL.out).mono ?_
      rintro e w7 ⟨rfl, hx⟩
      clear qA0 fA0 lA0 qBD fBD lBD qBE fBE lBE
      have HL := Lib.hid (HL.out.ext hx); have HM := Lib.hid (HM.out.ext hx); have HC := Lib.hid (HC.out.ext hx); have A0 := Lib.hid (A0.out.ext hx); have ND := Lib.hid (ND.out.ext hx); have BD := Lib.hid (BD.out.ext hx); have BE := Lib.hid (BE.out.ext hx); have RB := Lib.hid (RB.out.ext hx); have X := Lib.hid (X.out.trans hx)
      clear hx
      have bz := Blk.new w7 #[.int .i64 m1, .int .i64 m2, .int .i64 m3] 24
      have hxa := (Ext.refl w7).alloc (.cells #[.int .i64 m1, .int .i64 m2, .int .i64 m3] 24)
      have HL := Lib.hid (HL.out.ext hxa); have HM := Lib.hid (HM.out.ext hxa); have HC := Lib.hid (HC.out.ext hxa); have A0 := Lib.hid (A0.out.ext hxa); have ND := Lib.hid (ND.out.ext hxa); have BD := Lib.hid (BD.out.ext hxa); have BE := Lib.hid (BE.out.ext hxa); have RB := Lib.hid (RB.out.ext hxa); have X := Lib.hid (X.out.trans hxa)
      have BN := Lib.hid bz; clear bz hxa
      go_wp2_with fail
      generalize hwz : (w7.alloc (.cells #[.int .i64 m1, .int .i64 m2, .int .i64 m3] 24)) = wz at *
      clear hwz
      obtain ⟨hbb, hbm, z1, x0, x1, x2⟩ := HY.out
      have hz := X.out.size
      have z0 := (X.out.cell (p := ⟨bm, om + b, none⟩) hbm).trans z1
      have y0 := (X.out.cell (p := ⟨bb, off + b * 3, none⟩) hbb).trans x0
      have y1 := (X.out.cell (p := ⟨bb, off + b * 3 + 1, none⟩) hbb).trans x1
      have y2 := (X.out.cell (p := ⟨bb, off + b * 3 + 2, none⟩) hbb).trans x2
      have l1 : bm < wz.heap.size := by omega
      have l2 : bb < wz.heap.size := by omega
      have hE : ∀ W, (binOp .neq 24 (.agg #[.int .i64 m1, .int .i64 m2, .int .i64 m3]) (.agg #[.int .i64 m1, .int .i64 m2, .int .i64 m3])).run Try.prog W = .ok (.bool false) W := fun W => by rw [neqMem, beqD_self]; rfl
      have heq := fun W (x : Ext wz W) => equalRat_any _ _ r r W (ND.out.ext x) (HRD.out.ext (X.out.trans x))
      rw [decide_eq_true (rfl : r = r)] at heq
      have HEQ := Lib.hid heq
      clear heq
      clear x0 x1 x2 z1 hbb hbm
      have qA0 := A0.out.cell; have fA0 := A0.out.free; have lA0 := A0.out.lt; have qBD := BD.out.cell; have fBD := BD.out.free; have lBD := BD.out.lt; have qBE := BE.out.cell; have fBE := BE.out.free; have lBE := BE.out.lt; have qBN := BN.out.cell; have fBN := BN.out.free; have lBN := BN.out.lt
      simp only [List.append_eq, List.cons_append, List.nil_append]
      have u1 : decide ((b : Int) < 0) = false := decide_eq_false (by omega)
      have u2 : decide (mask.length ≤ b) = false := decide_eq_false (by omega)
      (refine wp_region_quietE (by kernel_rfl) (by kernel_rfl) ?_; (repeat (go_big_quiet_step ((go_at_call 35; exact quietE (HEQ.out _ (Later.ext _)))))); refine wpQuiet_nil ?_; rintro w1 ⟨⟨_, hx1⟩, rfl⟩; (try dsimp only); have hz1 := hx1.size; (try simp only [World.size_alloc, World.size_setCell, World.size_drew, size_drewN] at hz1); obtain ⟨hc1, hf1⟩ := hx1.old (B := w.heap.size) (by (try simp only [World.size_alloc, World.size_setCell, World.size_drew, size_drewN]); omega))
      clear qA0 fA0 lA0 qBD fBD lBD qBE fBE lBE qBN fBN lBN
      have HL := Lib.hid (HL.out.ext hx1); have HM := Lib.hid (HM.out.ext hx1); have HC := Lib.hid (HC.out.ext hx1); have A0 := Lib.hid (A0.out.ext hx1); have ND := Lib.hid (ND.out.ext hx1); have BD := Lib.hid (BD.out.ext hx1); have BE := Lib.hid (BE.out.ext hx1); have RB := Lib.hid (RB.out.ext hx1); have BN := Lib.hid (BN.out.ext hx1); have X := Lib.hid (X.out.trans hx1)
      clear y0 y1 y2 z0 hE l1 l2 hz
      go_wp2_with fail
      obtain ⟨a', c', hv, -, -, hsr⟩ := rdB_get RB.out
      injection hv with e1 _ e3
      subst e1; subst e3
      obtain ⟨b3, o3, rfl, -, -⟩ := hsr b (by omega)
      clear hsr
      go_loopw [13] (fun i wr => ∃ k : Nat, k ≤ sv.length ∧ i = .int .i64 k ∧ Ext w1 wr) (fun i _ => sv.length - (intOf i).toNat)
      case atStart => exact ⟨0, Nat.zero_le _, rfl, Ext.refl w1⟩
      case round =>
        obtain ⟨k, hk, rfl, hext⟩ := hrel
        have XR := Lib.hid hext
        have A0 := Lib.hid (A0.out.ext hext); have BD := Lib.hid (BD.out.ext hext); have RB := Lib.hid (RB.out.ext hext); have ND := Lib.hid (ND.out.ext hext); have X := Lib.hid (X.out.trans hext)
        clear hext
        by_cases hlt : k < sv.length
        · have hkm : k < mask.length := by have := HL1.out; have := HL2.out; have := HL3.out; omega
          have hkc : k < costs.length := by have := HL1.out; have := HL2.out; have := HL3.out; omega
          have q1 : (0 : Int) ≤ (k : Int) := by omega
          have q2 : (k : Int) < (sv.length : Int) := by omega
          have q3 : (k : Int) < (mask.length : Int) := by omega
          have q4 : (k : Int) < (costs.length : Int) := by omega
          obtain ⟨bm', om', e, hbm, z1⟩ := HMR.out k hkm
          simp only [Option.some.injEq, Addr.mk.injEq, and_true] at e
          obtain ⟨rfl, rfl⟩ := e
          obtain ⟨bb', off', e, hbb, x0, x1, x2, hrd⟩ := HR.out k hkc
          simp only [Option.some.injEq, Addr.mk.injEq, and_true] at e
          obtain ⟨rfl, rfl⟩ := e
          obtain ⟨a', c', hv, -, -, hsr⟩ := rdB_get RB.out
          injection hv with e1 _ e3
          subst e3
          obtain ⟨b4, o4, e, hb4, z2⟩ := hsr k hlt
          obtain ⟨b5, o5, e', hb5, z3⟩ := hsr b (by omega)
          rw [← e1] at e e'
          simp only [Option.some.injEq, Addr.mk.injEq, and_true] at e e'
          obtain ⟨rfl, rfl⟩ := e
          obtain ⟨rfl, rfl⟩ := e'
          have y9 := (X.out.cell (p := ⟨bm, om + k, none⟩) hbm).trans z1
          have y0 := (X.out.cell (p := ⟨bb, off + k * 3, none⟩) hbb).trans x0
          have y1 := (X.out.cell (p := ⟨bb, off + k * 3 + 1, none⟩) hbb).trans x1
          have y2 := (X.out.cell (p := ⟨bb, off + k * 3 + 2, none⟩) hbb).trans x2
          have hz := X.out.size
          have l1 : bm < wr.heap.size := by omega
          have l2 : bb < wr.heap.size := by omega
          have hlk := HLM.out k hkc
          have hall := HALL.out k hkc
          obtain ⟨rk, hrk⟩ : ∃ y, y = costs.getD k zR := ⟨_, rfl⟩
          obtain ⟨fk, hfk⟩ : ∃ y, y = f k := ⟨_, rfl⟩
          obtain ⟨mk, hmk⟩ : ∃ y, y = mask.getD k false := ⟨_, rfl⟩
          obtain ⟨sk, hsk⟩ : ∃ y, y = sv.getD k false := ⟨_, rfl⟩
          rw [← hrk] at y0 y1 y2 hrd hlk hall
          rw [← hfk] at y1 y2 hrd
          rw [← hmk] at y9 hall
          rw [← hsk] at z2 hall
          have hcm := fun W (x : Ext wr W) => cmpR_any _ _ rk r W (hrd.ext (X.out.trans x)) (ND.out.ext x) hlk HLK.out
          obtain ⟨cm, hcm0⟩ : ∃ c, c = cmpR rk r := ⟨_, rfl⟩
          rw [← hcm0] at hcm hall
          obtain ⟨c1, c2⟩ := cm
          dsimp only at hcm hall
          have HCM := Lib.hid hcm; have HA := Lib.hid hall
          clear hcm hall hcm0 hrk hfk hmk hsk hlk hrd hsr x0 x1 x2 z1 hbm hbb e1
          have qA0 := A0.out.cell; have fA0 := A0.out.free; have lA0 := A0.out.lt; have qBD := BD.out.cell; have fBD := BD.out.free; have lBD := BD.out.lt
          cases mk
          · go_wp2_with fail
            go_roundw
            case rel => exact ⟨k + 1, by omega, by go_num, XR.out⟩
            case measure => simp [intOf]; omega
          · cases sk
            · go_wp2_with fail
              go_roundw
              case rel => exact ⟨k + 1, by omega, by go_num, XR.out⟩
              case measure => simp [intOf]; omega
            · obtain ⟨s1, s2, s3, s4⟩ := HA.out rfl rfl
              subst s4
              rw [s1] at z3
              have S3 := Lib.hid s3; clear s1 s3
              go_wp2_with fail
              (refine wp_region_quietE (by kernel_rfl) (by kernel_rfl) ?_; (repeat (go_big_quiet_step ((go_at_call 28; exact quietE (HCM.out _ (Later.ext _)))))); refine wpQuiet_nil ?_; rintro w1 ⟨⟨_, hx1⟩, rfl⟩; (try dsimp only); have hz1 := hx1.size; (try simp only [World.size_alloc, World.size_setCell, World.size_drew, size_drewN] at hz1); obtain ⟨hc1, hf1⟩ := hx1.old (B := w.heap.size) (by (try simp only [World.size_alloc, World.size_setCell, World.size_drew, size_drewN]); omega))
              have z4 := (hx1.cell (p := ⟨b3, o3 + b, none⟩) hb5).trans z3
              have XR := Lib.hid (XR.out.trans hx1)
              clear z3 y0 y1 y2 y9 z2 hx1
              by_cases h0 : c1 = 0
              · have s5 := S3.out h0
                subst h0
                have q5 : ¬ (k : Int) < (b : Int) := by omega
                have q6 : ¬ k < b := by omega
                go_wp2_with fail
                go_roundw
                case rel => exact ⟨k + 1, by omega, by go_num, XR.out⟩
                case measure => simp [intOf]; omega
              · have q5 : (c1 == 0) = false := by simpa using h0
                go_wp2_with fail
                go_roundw
                case rel => exact ⟨k + 1, by omega, by go_num, XR.out⟩
                case measure => simp [intOf]; omega
        · have q1 : ¬ (k : Int) < (sv.length : Int) := by omega
          go_wp2_with fail
          go_ret
          exact ⟨rfl, X.out⟩
  · clear hch
    go_enter Try.func8, Try.ntmps8
    go_wp2_with fail
    refine (HLO.out _ X.out).mono ?_
    rintro e w1 ⟨rfl, hx⟩
    clear qA0 fA0 lA0
    have HL := Lib.hid (HL.out.ext hx); have HM := Lib.hid (HM.out.ext hx); have HC := Lib.hid (HC.out.ext hx); have A0 := Lib.hid (A0.out.ext hx); have X := Lib.hid (X.out.trans hx)
    clear hx
    have qA0 := A0.out.cell; have fA0 := A0.out.free; have lA0 := A0.out.lt
    go_wp2_with fail
    refine (awake28_any _).mono ?_
    rintro e w2 ⟨rfl, hx⟩
    clear qA0 fA0 lA0
    have HL := Lib.hid (HL.out.ext hx); have HM := Lib.hid (HM.out.ext hx); have HC := Lib.hid (HC.out.ext hx); have A0 := Lib.hid (A0.out.ext hx); have X := Lib.hid (X.out.trans hx)
    clear hx
    go_wp2_with fail
    go_ret
    exact ⟨rfl, X.out⟩

end Go.Proofs.Yteglolgdjbmklaa
