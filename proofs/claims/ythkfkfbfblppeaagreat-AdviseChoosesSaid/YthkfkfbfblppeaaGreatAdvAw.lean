/- Walk of awake of layer 28: the chapter's examples hold. Conditions: none. -/
import Derived.Test.YthkfkfbfblppeaaGreatAdvO
import Derived.Test.YthkfkfbfblppeaaGreatEq
namespace Go.Proofs.YthkfkfbfblppeaaGreat
set_option linter.unusedSimpArgs false
set_option linter.unusedVariables false
open Go.RowKit

theorem eqMem (a1 b1 c1 a2 b2 c2 : Int) (w : World) : (binOp .eql 47 (.agg #[.int .i64 a1, .int .i64 b1, .int .i64 c1]) (.agg #[.int .i64 a2, .int .i64 b2, .int .i64 c2])).run Tryz.prog w = .ok (.bool (beqD (a1, b1, c1) (a2, b2, c2))) w := by
  go_simp
  by_cases h1 : a1 = a2 <;> by_cases h2 : b1 = b2 <;> by_cases h3 : c1 = c2 <;> simp [beqD, h1, h2, h3]
theorem neqMem (a1 b1 c1 a2 b2 c2 : Int) (w : World) : (binOp .neq 47 (.agg #[.int .i64 a1, .int .i64 b1, .int .i64 c1]) (.agg #[.int .i64 a2, .int .i64 b2, .int .i64 c2])).run Tryz.prog w = .ok (.bool (!beqD (a1, b1, c1) (a2, b2, c2))) w := by
  go_simp
  by_cases h1 : a1 = a2 <;> by_cases h2 : b1 = b2 <;> by_cases h3 : c1 = c2 <;> simp [beqD, h1, h2, h3]

/-- The cells of the examples of kinds. -/
def kdCells : Array Value := #[.int .i64 1, .int .i64 2, .int .u8 5, .int .i64 2, .int .i64 1, .int .u8 6, .int .i64 1, .int .i64 3, .int .u8 4, .int .i64 0, .int .i64 3, .int .u8 3, .int .i64 3, .int .i64 0, .int .u8 2, .int .i64 3, .int .i64 3, .int .u8 1]
theorem kd_cells : ∀ k, k < 6 → kdCells[k * 3]? = some (.int .i64 (kdA.getD k 0)) ∧ kdCells[k * 3 + 1]? = some (.int .i64 (kdB.getD k 0)) ∧ kdCells[k * 3 + 2]? = some (.int .u8 (kdC.getD k 0)) := by
  intro k hk
  have : k = 0 ∨ k = 1 ∨ k = 2 ∨ k = 3 ∨ k = 4 ∨ k = 5 := by omega
  rcases this with rfl | rfl | rfl | rfl | rfl | rfl <;> exact ⟨rfl, rfl, rfl⟩

theorem rdR_two {w : World} {b x y : Value} {r : RR} (h : RdR w (.agg #[b, x, y]) r) : RdI .u32 w x r.num ∧ RdI .u32 w y r.den := by
  obtain ⟨vn, vd, e, h1, h2⟩ := h
  injection e with e
  simp only [Array.mk.injEq, List.cons.injEq, and_true] at e
  obtain ⟨_, rfl, rfl⟩ := e
  exact ⟨h1, h2⟩
theorem k4_lim : LimRs [⟨false, [3], [4]⟩, ⟨false, [1], [2]⟩, ⟨false, [1], [2]⟩, ⟨false, [], []⟩] := by
  intro i hi
  have : i = 0 ∨ i = 1 ∨ i = 2 ∨ i = 3 := by simp at hi; omega
  rcases this with rfl | rfl | rfl | rfl <;> (constructor <;> intro x hx <;> simp at hx <;> omega)

set_option maxRecDepth 100000 in
set_option maxHeartbeats 8000000 in
theorem awake28_any (w : World) : Calls Tryz.prog 30 #[] w fun en w' => en = .returned (.bool true) ∧ Ext w w' := by
  go_enter Tryz.func30, Tryz.ntmps30
  go_wp2_with fail
  refine (four_any _).mono ?_
  rintro e w1 ⟨⟨fb, rfl, hfr⟩, hx⟩
  have X := Lib.hid hx; have FR := Lib.hid hfr
  clear hx hfr
  have hkb := Blk.new w1 kdCells 125
  have KB := Lib.hid hkb
  have FR := Lib.hid (FR.out.ext ((Ext.refl w1).alloc (.cells kdCells 125))); have X := Lib.hid (X.out.alloc (.cells kdCells 125))
  clear hkb
  go_wp2_with fail
  obtain ⟨g, hg⟩ : ∃ g, g = w1.heap.size := ⟨_, rfl⟩
  rw [← hg] at KB ⊢
  generalize hw2 : w1.alloc (.cells kdCells 125) = w2 at KB FR X
  rw [show (w1.alloc (.cells #[.int .i64 1, .int .i64 2, .int .u8 5, .int .i64 2, .int .i64 1, .int .u8 6, .int .i64 1, .int .i64 3, .int .u8 4, .int .i64 0, .int .i64 3, .int .u8 3, .int .i64 3, .int .i64 0, .int .u8 2, .int .i64 3, .int .i64 3, .int .u8 1] 125)) = w2 from hw2]
  clear hw2 hg
  go_loopw [26] (fun i wr => ∃ k : Nat, k ≤ 6 ∧ i = .int .i64 k ∧ Ext w2 wr) (fun i _ => 6 - (intOf i).toNat)
  case atStart => exact ⟨0, by omega, rfl, Ext.refl _⟩
  case round =>
    obtain ⟨k, hk, rfl, hx⟩ := hrel
    by_cases hlt : k < 6
    · obtain ⟨e0, e1, e2⟩ := kd_cells k hlt
      have hkd := kd_all k hlt
      have HK := Lib.hid (KB.out.ext hx)
      have c0 : wr.cell? ⟨g, k * 3, none⟩ = some (.int .i64 (kdA.getD k 0)) := by rw [HK.out.cell]; exact e0
      have c1 : wr.cell? ⟨g, k * 3 + 1, none⟩ = some (.int .i64 (kdB.getD k 0)) := by rw [HK.out.cell]; exact e1
      have c2 : wr.cell? ⟨g, k * 3 + 2, none⟩ = some (.int .u8 (kdC.getD k 0)) := by rw [HK.out.cell]; exact e2
      have hkc := fun W h => kind_any (.slice (some ⟨fb, 0, none⟩) 4 4) fourL (kdA.getD k 0) (kdB.getD k 0) W h
      rw [hkd] at hkc
      obtain ⟨ka, hka⟩ : ∃ x, x = kdA.getD k 0 := ⟨_, rfl⟩
      obtain ⟨kb, hkb⟩ : ∃ x, x = kdB.getD k 0 := ⟨_, rfl⟩
      obtain ⟨kc, hkc0⟩ : ∃ x, x = kdC.getD k 0 := ⟨_, rfl⟩
      rw [← hka] at c0 hkc
      rw [← hkb] at c1 hkc
      rw [← hkc0] at c2 hkc
      dsimp only at hkc
      have HKC := Lib.hid hkc; have HX := Lib.hid hx
      have hy : Ext wr (wr.alloc (.cells #[.int .i64 ka, .int .i64 kb, .int .u8 kc] 125)) := (Ext.refl wr).alloc _
      have HY := Lib.hid hy; have BX := Lib.hid (Blk.new wr #[.int .i64 ka, .int .i64 kb, .int .u8 kc] 125)
      have q1 : (0 : Int) ≤ (k : Int) := by omega
      have q2 : (k : Int) < 6 := by omega
      clear hka hkb hkc0 hkc hkd e0 e1 e2 hx hy
      go_wp2_with fail
      refine (HKC.out _ (FR.out.ext (HX.out.trans HY.out))).mono ?_
      rintro e w3 ⟨rfl, hx⟩
      have HX3 := Lib.hid ((HX.out.trans HY.out).trans hx); have BX := Lib.hid (BX.out.ext hx)
      have d0 := BX.out.cell; have ld := BX.out.lt
      have t1 : (kc != kc) = false := by simp
      clear hx c0 c1 c2
      go_wp2_with fail
      go_roundw
      case rel => exact ⟨k + 1, by omega, by go_num, HX3.out⟩
      case measure => simp [intOf]; omega
    · obtain rfl : k = 6 := by omega
      have X := Lib.hid (X.out.trans hx); have FR := Lib.hid (FR.out.ext hx)
      clear hx KB
      have ha2 := fun W h => adv_any (.slice (some ⟨fb, 0, none⟩) 4 4) fourL 2 W h
      have ha3 := fun W h => adv_any (.slice (some ⟨fb, 0, none⟩) 4 4) fourL 3 W h
      rw [k4_adv2] at ha2
      rw [k4_adv3] at ha3
      unfold advW at ha2 ha3
      dsimp only at ha2 ha3
      have HA2 := Lib.hid ha2; have HA3 := Lib.hid ha3
      clear ha2 ha3
      go_wp2_with fail
      refine (HA2.out _ FR.out).mono ?_
      rintro e w4 ⟨rfl, hx⟩
      have B6 := Lib.hid (Blk.new w4 #[.int .u8 1, .int .i64 25, .bool false] 130)
      have hy := hx.alloc (.cells #[.int .u8 1, .int .i64 25, .bool false] 130)
      have X := Lib.hid (X.out.trans hy); have FR := Lib.hid (FR.out.ext hy)
      clear hx hy
      go_wp2_with fail
      refine (HA3.out _ FR.out).mono ?_
      rintro e w5 ⟨rfl, hx⟩
      have B8 := Lib.hid (Blk.new w5 #[.int .u8 2, .int .i64 0, .bool true] 130)
      have hy := hx.alloc (.cells #[.int .u8 2, .int .i64 0, .bool true] 130)
      have X := Lib.hid (X.out.trans hy); have FR := Lib.hid (FR.out.ext hy); have B6 := Lib.hid (B6.out.ext hy)
      clear hx hy
      go_wp2_with fail
      have hr34 := fun W => ratio_any 3 4 W (by decide) (by decide) (by decide) (by decide)
      have hr12 := fun W => ratio_any 1 2 W (by decide) (by decide) (by decide) (by decide)
      have hr01 := fun W => ratio_any 0 1 W (by decide) (by decide) (by decide) (by decide)
      rw [k4_34] at hr34
      rw [k4_12] at hr12
      rw [k4_01] at hr01
      have HR34 := Lib.hid hr34; have HR12 := Lib.hid hr12; have HR01 := Lib.hid hr01
      clear hr34 hr12 hr01
      refine (HR34.out _).mono ?_
      rintro e wp ⟨⟨v, rfl, nn⟩, hx⟩
      obtain ⟨rp1, rp2, rp3, rp4, rfl⟩ := nn.shape
      have Np := Lib.hid nn.rd
      have FR := Lib.hid (FR.out.ext hx); have B6 := Lib.hid (B6.out.ext hx); have B8 := Lib.hid (B8.out.ext hx); have X := Lib.hid (X.out.trans hx)
      clear nn hx
      dsimp only [List.length_cons, List.length_nil, Nat.zero_add]
      go_wp2_with fail
      refine (HR12.out _).mono ?_
      rintro e wq ⟨⟨v, rfl, nn⟩, hx⟩
      obtain ⟨rq1, rq2, rq3, rq4, rfl⟩ := nn.shape
      have Nq := Lib.hid nn.rd
      have FR := Lib.hid (FR.out.ext hx); have B6 := Lib.hid (B6.out.ext hx); have B8 := Lib.hid (B8.out.ext hx); have Np := Lib.hid (Np.out.ext hx); have X := Lib.hid (X.out.trans hx)
      clear nn hx
      dsimp only [List.length_cons, List.length_nil, Nat.zero_add]
      go_wp2_with fail
      refine (HR12.out _).mono ?_
      rintro e wr ⟨⟨v, rfl, nn⟩, hx⟩
      obtain ⟨rr1, rr2, rr3, rr4, rfl⟩ := nn.shape
      have Nr := Lib.hid nn.rd
      have FR := Lib.hid (FR.out.ext hx); have B6 := Lib.hid (B6.out.ext hx); have B8 := Lib.hid (B8.out.ext hx); have Np := Lib.hid (Np.out.ext hx); have Nq := Lib.hid (Nq.out.ext hx); have X := Lib.hid (X.out.trans hx)
      clear nn hx
      dsimp only [List.length_cons, List.length_nil, Nat.zero_add]
      go_wp2_with fail
      refine (HR01.out _).mono ?_
      rintro e ws ⟨⟨v, rfl, nn⟩, hx⟩
      obtain ⟨rs1, rs2, rs3, rs4, rfl⟩ := nn.shape
      have Ns := Lib.hid nn.rd
      have FR := Lib.hid (FR.out.ext hx); have B6 := Lib.hid (B6.out.ext hx); have B8 := Lib.hid (B8.out.ext hx); have Np := Lib.hid (Np.out.ext hx); have Nq := Lib.hid (Nq.out.ext hx); have Nr := Lib.hid (Nr.out.ext hx); have X := Lib.hid (X.out.trans hx)
      clear nn hx
      dsimp only [List.length_cons, List.length_nil, Nat.zero_add]
      go_wp2_with fail
      have hb1 : Blk ((ws.alloc (.cells #[.bool false, .slice rp1 1 rp2, .slice rp3 1 rp4, .bool false, .slice rq1 1 rq2, .slice rq3 1 rq4, .bool false, .slice rr1 1 rr2, .slice rr3 1 rr4, .bool false, .slice rs1 0 rs2, .slice rs3 0 rs4] 62)).alloc (.cells #[.bool true, .bool true, .bool true, .bool false] 4)) ws.heap.size _ _ := (Blk.new ws _ _).alloc _
      have hb2 := Blk.new (ws.alloc (.cells #[.bool false, .slice rp1 1 rp2, .slice rp3 1 rp4, .bool false, .slice rq1 1 rq2, .slice rq3 1 rq4, .bool false, .slice rr1 1 rr2, .slice rr3 1 rr4, .bool false, .slice rs1 0 rs2, .slice rs3 0 rs4] 62)) #[.bool true, .bool true, .bool true, .bool false] 4
      rw [World.size_alloc] at hb2
      have hy : Ext ws ((ws.alloc (.cells #[.bool false, .slice rp1 1 rp2, .slice rp3 1 rp4, .bool false, .slice rq1 1 rq2, .slice rq3 1 rq4, .bool false, .slice rr1 1 rr2, .slice rr3 1 rr4, .bool false, .slice rs1 0 rs2, .slice rs3 0 rs4] 62)).alloc (.cells #[.bool true, .bool true, .bool true, .bool false] 4)) := ((Ext.refl ws).alloc _).alloc _
      have hrs := rdRs_blk hb1 [⟨false, [3], [4]⟩, ⟨false, [1], [2]⟩, ⟨false, [1], [2]⟩, ⟨false, [], []⟩] [[.bool false, .slice rp1 1 rp2, .slice rp3 1 rp4], [.bool false, .slice rq1 1 rq2, .slice rq3 1 rq4], [.bool false, .slice rr1 1 rr2, .slice rr3 1 rr4], [.bool false, .slice rs1 0 rs2, .slice rs3 0 rs4]] rfl rfl (by simp) (by simp) (by
        intro i x hx
        have hi := (List.getElem?_eq_some_iff.1 hx).1
        have : i = 0 ∨ i = 1 ∨ i = 2 ∨ i = 3 := by simp at hi; omega
        rcases this with rfl | rfl | rfl | rfl
        · injection hx with hx; subst hx; exact ⟨_, _, _, _, rfl, (rdR_two (Np.out.ext hy)).1, (rdR_two (Np.out.ext hy)).2⟩
        · injection hx with hx; subst hx; exact ⟨_, _, _, _, rfl, (rdR_two (Nq.out.ext hy)).1, (rdR_two (Nq.out.ext hy)).2⟩
        · injection hx with hx; subst hx; exact ⟨_, _, _, _, rfl, (rdR_two (Nr.out.ext hy)).1, (rdR_two (Nr.out.ext hy)).2⟩
        · injection hx with hx; subst hx; exact ⟨_, _, _, _, rfl, (rdR_two (Ns.out.ext hy)).1, (rdR_two (Ns.out.ext hy)).2⟩)
      have hle := least_any _ _ _ [true, true, true, false] _ hrs (rdB_blk [true, true, true, false] hb2 (by simp)) k4_lim
      rw [k4_least] at hle
      dsimp only [List.length_cons, List.length_nil, Nat.zero_add, Nat.reduceAdd] at hle
      have X := Lib.hid (X.out.trans hy); have FR := Lib.hid (FR.out.ext hy); have B6 := Lib.hid (B6.out.ext hy); have B8 := Lib.hid (B8.out.ext hy)
      refine hle.mono ?_
      clear hle hrs hb1 hb2 hy
      rintro e wl ⟨rfl, hx⟩
      have X := Lib.hid (X.out.trans hx); have FR := Lib.hid (FR.out.ext hx); have B6 := Lib.hid (B6.out.ext hx); have B8 := Lib.hid (B8.out.ext hx)
      clear hx Np Nq Nr Ns
      have hal := fun W h => allowed_any (.slice (some ⟨fb, 0, none⟩) 4 4) fourL 1 2 1 1 3 W h
      rw [k4_allow] at hal
      have hnx := fun W h => next_any (.slice (some ⟨fb, 0, none⟩) 4 4) fourL 1 2 1 2 W h (by decide) (by decide)
      rw [k4_next] at hnx
      unfold memW at hnx
      dsimp only at hal hnx
      have HAL := Lib.hid hal; have HNX := Lib.hid hnx
      have BM := Lib.hid (Blk.new wl #[.int .i64 1, .int .i64 2, .int .i64 1] 47)
      have hy : Ext wl (wl.alloc (.cells #[.int .i64 1, .int .i64 2, .int .i64 1] 47)) := (Ext.refl wl).alloc _
      have X := Lib.hid (X.out.trans hy); have FR := Lib.hid (FR.out.ext hy); have B6 := Lib.hid (B6.out.ext hy); have B8 := Lib.hid (B8.out.ext hy)
      clear hal hnx hy
      go_wp2_with fail
      refine (HAL.out _ FR.out).mono ?_
      rintro e wa ⟨⟨va, rfl, hown⟩, hx⟩
      have X := Lib.hid (X.out.trans hx); have FR := Lib.hid (FR.out.ext hx); have B6 := Lib.hid (B6.out.ext hx); have B8 := Lib.hid (B8.out.ext hx); have BM := Lib.hid (BM.out.ext hx)
      have RM := Lib.hid hown.rd
      have cm := BM.out.cell; have lm := BM.out.lt
      clear hown hx
      go_wp2_with fail
      refine (HNX.out _ FR.out).mono ?_
      rintro e wn ⟨rfl, hx⟩
      have BN := Lib.hid (Blk.new wn #[.int .i64 2, .int .i64 0, .int .i64 1] 47)
      have hy := hx.alloc (.cells #[.int .i64 2, .int .i64 0, .int .i64 1] 47)
      have X := Lib.hid (X.out.trans hy); have B6 := Lib.hid (B6.out.ext hy); have B8 := Lib.hid (B8.out.ext hy); have RM := Lib.hid (Rd.ext RM.out hy)
      clear hx hy cm lm
      have c6 := B6.out.cell; have c8 := B8.out.cell; have l6 := B6.out.lt; have l8 := B8.out.lt
      have hE1 : ∀ W, (binOp .eql 130 (.agg #[.int .u8 1, .int .i64 25, .bool false]) (.agg #[.int .u8 1, .int .i64 25, .bool false])).run Tryz.prog W = .ok (.bool true) W := fun W => by rw [eqAdv, beqD_self]
      have hE2 : ∀ W, (binOp .eql 130 (.agg #[.int .u8 2, .int .i64 0, .bool true]) (.agg #[.int .u8 2, .int .i64 0, .bool true])).run Tryz.prog W = .ok (.bool true) W := fun W => by rw [eqAdv, beqD_self]
      have hE3 : ∀ W, (binOp .eql 47 (.agg #[.int .i64 2, .int .i64 0, .int .i64 1]) (.agg #[.int .i64 2, .int .i64 0, .int .i64 1])).run Tryz.prog W = .ok (.bool true) W := fun W => by rw [eqMem, beqD_self]
      go_wp2_with fail
      have hb := Blk.new (wn.alloc (.cells #[.int .i64 2, .int .i64 0, .int .i64 1] 47)) #[.bool false, .bool true, .bool true, .bool false] 4
      rw [World.size_alloc] at hb
      have hy : Ext (wn.alloc (.cells #[.int .i64 2, .int .i64 0, .int .i64 1] 47)) ((wn.alloc (.cells #[.int .i64 2, .int .i64 0, .int .i64 1] 47)).alloc (.cells #[.bool false, .bool true, .bool true, .bool false] 4)) := (Ext.refl _).alloc _
      have heq := equalBools_any va _ [false, true, true, false] [false, true, true, false] _ (Rd.ext RM.out hy) (rdB_blk [false, true, true, false] hb (by simp))
      rw [decide_eq_true (rfl : [false, true, true, false] = [false, true, true, false])] at heq
      have X := Lib.hid (X.out.trans hy); have BN := Lib.hid (BN.out.ext hy)
      refine heq.mono ?_
      clear heq hb hy
      rintro e we ⟨rfl, hx⟩
      have X := Lib.hid (X.out.trans hx); have BN := Lib.hid (BN.out.ext hx)
      clear hx c6 c8 l6 l8
      have cn := BN.out.cell; have ln := BN.out.lt
      go_wp2_with fail
      go_ret
      exact ⟨rfl, X.out⟩

end Go.Proofs.YthkfkfbfblppeaaGreat
