/- The law RatDots. Conditions: the lists read as slices, their numbers have limbs. -/
import Derived.Test.YtbnalhmcbolngaaGreatRatDu
import Derived.Test.YtbnalhmcbolngaaGreatRatOv
import Derived.Test.YtbnalhmcbolngaaGreatLongS
namespace Go.Proofs.YtbnalhmcbolngaaGreat
set_option linter.unusedSimpArgs false
set_option linter.unusedVariables false
open Go.RowKit

theorem fitR_len (q : Rat) : (fitR q).1.num.length ≤ 128 ∧ (fitR q).1.den.length ≤ 128 := by
  unfold fitR
  by_cases h : small q
  · rw [if_pos h]; exact h
  · rw [if_neg h]; exact ⟨Nat.zero_le _, Nat.zero_le _⟩
theorem addR_len (a b : RR) : (addR a b).1.num.length ≤ 128 ∧ (addR a b).1.den.length ≤ 128 := by
  unfold addR opR
  by_cases h : chkR2 a b = 0
  · rw [if_pos h]; exact fitR_len _
  · rw [if_neg h]; exact ⟨Nat.zero_le _, Nat.zero_le _⟩
theorem addL_len : ∀ (l : List RR) (s : RR), s.num.length ≤ 128 ∧ s.den.length ≤ 128 → (addL s l).1.num.length ≤ 128 ∧ (addL s l).1.den.length ≤ 128
  | [], _, h => h
  | x :: r, s, _ => by
    unfold addL; split
    · exact addL_len r _ (addR_len s x)
    · exact ⟨Nat.zero_le _, Nat.zero_le _⟩
theorem dotL_len : ∀ (a b : List RR) (s : RR), s.num.length ≤ 128 ∧ s.den.length ≤ 128 → (dotL s a b).1.num.length ≤ 128 ∧ (dotL s a b).1.den.length ≤ 128
  | [], b, s, h => by rw [dotL_nil]; exact h
  | a :: la, [], s, h => by unfold dotL; exact h
  | a :: la, b :: bs, s, h => by
    unfold dotL
    split
    · split
      · exact dotL_len la bs _ (addL_len _ _ ⟨Nat.zero_le _, Nat.zero_le _⟩)
      · exact ⟨Nat.zero_le _, Nat.zero_le _⟩
    · exact ⟨Nat.zero_le _, Nat.zero_le _⟩
theorem dotR_len (a b : List RR) : (dotR a b).1.num.length ≤ 128 ∧ (dotR a b).1.den.length ≤ 128 := by
  unfold dotR; split
  · exact dotL_len _ _ _ ⟨Nat.zero_le _, Nat.zero_le _⟩
  · exact ⟨Nat.zero_le _, Nat.zero_le _⟩
theorem equalRatsT_any (v1 v2 : Value) (l : List RR) (w : World) (h1 : RdRs w v1 l) (h2 : RdRs w v2 l) :
    Calls Tryz.prog 16 #[v1, v2] w fun e w' => e = .returned (.bool true) ∧ Ext w w' := by
  have := equalRats_any v1 v2 l l w h1 h2
  rwa [decide_eq_true rfl] at this

set_option maxHeartbeats 4000000 in
theorem dotsL_any (va vb : Value) (la lb : List RR) (w : World) (ha : RdRs w va la) (hb : RdRs w vb lb) (hla : LimL la) (hlb : LimL lb) :
    Calls Tryz.prog 6 #[va, vb] w fun e w' => e = .returned (.bool true) ∧ Ext w w' := by
  have HA := Lib.hid ha; have HB := Lib.hid hb; have HLA := Lib.hid hla; have HLB := Lib.hid hlb
  obtain ⟨aa, ca, rfl, hca, hma, _⟩ := ha.get
  obtain ⟨ab, cb, rfl, hcb, hmb, _⟩ := hb.get
  have ga : la.length ≤ 9223372036854775807 := by omega
  have gb : lb.length ≤ 9223372036854775807 := by omega
  have HLong := Lib.hid (fun W (x : Ext w W) (hs : la.length ≤ 100) => long6s_any _ la W (ha.ext x) hs)
  have HLongB := Lib.hid (fun W (x : Ext w W) (hs : lb.length ≤ 100) => long6s_any _ lb W (hb.ext x) hs)
  clear ha hb hla hlb hca hma hcb hmb
  by_cases h1 : 8 < la.length
  · have q1 : (8 : Int) < (la.length : Int) := by omega
    clear h1
    go_enter Tryz.func6, Tryz.ntmps6
    go_wp2_with fail
    refine (awake6_any _).mono ?_
    rintro e w1 ⟨rfl, hx⟩
    go_wp2_with fail
    go_ret
    exact ⟨rfl, hx⟩
  by_cases h2 : 8 < lb.length
  · have q1 : ¬ (8 : Int) < (la.length : Int) := by omega
    have q2 : (8 : Int) < (lb.length : Int) := by omega
    clear h1 h2
    go_enter Tryz.func6, Tryz.ntmps6
    go_wp2_with fail
    refine (awake6_any _).mono ?_
    rintro e w1 ⟨rfl, hx⟩
    go_wp2_with fail
    go_ret
    exact ⟨rfl, hx⟩
  have q1 : ¬ (8 : Int) < (la.length : Int) := by omega
  have q2 : ¬ (8 : Int) < (lb.length : Int) := by omega
  go_enter Tryz.func6, Tryz.ntmps6
  go_wp2_with fail
  refine (HLong.out w (Ext.refl w) (by omega)).mono ?_
  rintro e w1 ⟨⟨r, rfl, hr⟩, hx1⟩
  have X1 := Lib.hid hx1
  cases r with
  | true =>
    clear hx1 hr
    go_wp2_with fail
    refine (awake6_any _).mono ?_
    rintro e w2 ⟨rfl, hx⟩
    have X2 := X1.out.trans hx
    go_wp2_with fail
    go_ret
    exact ⟨rfl, X2⟩
  | false =>
  have HLb := Lib.hid (HLongB.out _ hx1 (by omega))
  have OA := Lib.hid (hr rfl)
  clear hx1 hr
  go_wp2_with fail
  refine HLb.out.mono ?_
  rintro e w2 ⟨⟨r, rfl, hr⟩, hx2⟩
  have X2 := Lib.hid (X1.out.trans hx2)
  cases r with
  | true =>
    clear hx2 hr
    go_wp2_with fail
    refine (awake6_any _).mono ?_
    rintro e w3 ⟨rfl, hx⟩
    have X3 := X2.out.trans hx
    go_wp2_with fail
    go_ret
    exact ⟨rfl, X3⟩
  | false =>
  have OB := Lib.hid (hr rfl)
  have hcpa := fun W (x : Ext w W) => copyRats_any _ la W (HA.out.ext x) (by omega) (fun i hi => by have := OA.out i hi; unfold okLen at this; omega)
  have hcpb := fun W (x : Ext w W) => copyRats_any _ lb W (HB.out.ext x) (by omega) (fun i hi => by have := OB.out i hi; unfold okLen at this; omega)
  have CPA := Lib.hid hcpa; have CPB := Lib.hid hcpb
  clear hx2 hr hcpa hcpb h1 h2 HLong HLongB
  go_wp2_with fail
  refine (CPA.out _ X2.out).mono ?_
  rintro e w3 ⟨⟨x, rfl, hx⟩, hx3⟩
  have RX := Lib.hid (OwRs.rd hx); have X3 := Lib.hid (X2.out.trans hx3)
  obtain ⟨xa, xc, rfl, -⟩ := RX.out.get
  clear hx hx3
  go_wp2_with fail
  refine (CPB.out _ X3.out).mono ?_
  rintro e w4 ⟨⟨y, rfl, hy⟩, hx4⟩
  have RX := Lib.hid (RX.out.ext hx4); have RY := Lib.hid (OwRs.rd hy); have X4 := Lib.hid (X3.out.trans hx4)
  obtain ⟨ya, yc, rfl, -⟩ := RY.out.get
  clear hy hx4
  go_wp2_with fail
  have hrd := refDotR_any _ _ la lb w4 (HA.out.ext X4.out) (HB.out.ext X4.out) HLA.out HLB.out
  have hpd := fun W (x : Ext w4 W) => dotR_any _ _ la lb W (RX.out.ext x) (RY.out.ext x) HLA.out HLB.out
  have hdl := dotR_len la lb
  obtain ⟨D, hD⟩ : ∃ D, D = dotR la lb := ⟨_, rfl⟩
  rw [← hD] at hrd hpd hdl
  obtain ⟨d, z⟩ := D
  dsimp only at hdl
  clear hD
  have HPD := Lib.hid hpd; have HDL := Lib.hid hdl
  clear hpd hdl
  refine hrd.mono ?_
  clear hrd
  rintro e w5 ⟨⟨u, rfl, hu⟩, hx5⟩
  obtain ⟨u1, u2, u3, u4, rfl⟩ := hu.shape
  dsimp only at hu ⊢
  have NU := Lib.hid hu.rd; have X5 := Lib.hid (X4.out.trans hx5); have Y5 := Lib.hid hx5
  clear hu hx5
  go_wp2_with fail
  have U5 := Lib.hid (Blk.new w5 #[.bool d.neg, .slice u1 d.num.length u2, .slice u3 d.den.length u4] 33)
  have xa5 : Ext w5 (w5.alloc (.cells #[.bool d.neg, .slice u1 d.num.length u2, .slice u3 d.den.length u4] 33)) := (Ext.refl w5).alloc _
  have NU := Lib.hid (NU.out.ext xa5); have X5 := Lib.hid (X5.out.trans xa5); have Y5 := Lib.hid (Y5.out.trans xa5)
  obtain ⟨B5, hB5⟩ : ∃ B, B = w5.heap.size := ⟨_, rfl⟩
  obtain ⟨wa, hwa⟩ : ∃ W, W = w5.alloc (.cells #[.bool d.neg, .slice u1 d.num.length u2, .slice u3 d.den.length u4] 33) := ⟨_, rfl⟩
  rw [← hB5, ← hwa] at U5
  rw [← hwa] at NU X5 Y5
  rw [← hB5, ← hwa]
  clear xa5 hB5 hwa
  refine (HPD.out _ Y5.out).mono ?_
  rintro e w6 ⟨⟨u, rfl, hu⟩, hx6⟩
  obtain ⟨d1, d2, d3, d4, rfl⟩ := hu.shape
  dsimp only at hu ⊢
  have xd6 : Ext w6 (w6.alloc (.cells #[.bool d.neg, .slice d1 d.num.length d2, .slice d3 d.den.length d4] 33)) := (Ext.refl w6).alloc _
  have K6 := Lib.hid ((KpR.new hu).ext xd6); have D6 := Lib.hid (Blk.new w6 #[.bool d.neg, .slice d1 d.num.length d2, .slice d3 d.den.length d4] 33)
  have U6 := Lib.hid (U5.out.ext (hx6.trans xd6)); have NU := Lib.hid (NU.out.ext (hx6.trans xd6)); have X6 := Lib.hid (X5.out.trans (hx6.trans xd6)); have Y6 := Lib.hid (Y5.out.trans (hx6.trans xd6))
  have s4 := Y5.out.size
  have s6 : w6.heap.size ≤ (w6.alloc (.cells #[.bool d.neg, .slice d1 d.num.length d2, .slice d3 d.den.length d4] 33)).heap.size := by rw [World.size_alloc]; omega
  have S4 := Lib.hid s4; have S6 := Lib.hid s6
  have c1 := U6.out.cell; have l1 := U6.out.lt; have c2 := D6.out.cell; have l2 := D6.out.lt; have f1 := U6.out.free; have f2 := D6.out.free
  clear hu hx6 xd6 s4 s6
  go_wp2_with fail
  refine (same6_any _ _ d d z z wa.heap.size w6.heap.size _ K6.out NU.out S6.out (by have := HDL.out; omega) rfl rfl).mono ?_
  rintro e w7 ⟨rfl, hg⟩
  have X7 := Lib.hid (GrX.ext Y6.out hg S4.out)
  have RX := Lib.hid (RX.out.ext X7.out); have RY := Lib.hid (RY.out.ext X7.out); have XW := Lib.hid (X4.out.trans X7.out)
  clear hg c1 l1 c2 l2 f1 f2
  go_wp2_with fail
  refine (equalRatsT_any _ _ la w7 RX.out (HA.out.ext XW.out)).mono ?_
  rintro e w8 ⟨rfl, hx8⟩
  have RY := Lib.hid (RY.out.ext hx8); have XW := Lib.hid (XW.out.trans hx8)
  clear hx8
  go_wp2_with fail
  refine (equalRatsT_any _ _ lb w8 RY.out (HB.out.ext XW.out)).mono ?_
  rintro e w9 ⟨rfl, hx9⟩
  have XW := Lib.hid (XW.out.trans hx9)
  clear hx9
  go_wp2_with fail
  refine (awake6_any _).mono ?_
  rintro e w10 ⟨rfl, hx10⟩
  have XW := Lib.hid (XW.out.trans hx10)
  clear hx10
  go_wp2_with fail
  go_ret
  exact ⟨rfl, XW.out⟩

end Go.Proofs.YtbnalhmcbolngaaGreat
