/- Walk of the law AdviseChooses: it returns true (written by mkacho.py). Conditions: the case reads. -/
import Derived.Test.YthkfkfbfblppeaaGreatAdvAw
import Derived.Test.YthkfkfbfblppeaaGreatLongC
import Derived.Test.YthkfkfbfblppeaaGreatRch
import Derived.Test.YthkfkfbfblppeaaGreatOvB
import Derived.Test.YthkfkfbfblppeaaGreatEachF
import Derived.Test.YthkfkfbfblppeaaGreatArgR
namespace Go.Proofs.YthkfkfbfblppeaaGreat
set_option linter.unusedSimpArgs false
set_option linter.unusedVariables false
open Go.RowKit

theorem OwBo.ext {w w' : World} {B : Nat} {v : Value} {l : List Bool} (h : OwBo w B v l) (x : Ext w w') : OwBo w' B v l := own_ext h x
theorem choose_shr {l : List Bnd} {now age rev : Int} {costs : List RR} {mask : List Bool} {lr lh : Int} (h : wideB costs = false) : (chooseS l now age rev costs mask lr lh).1.2.2.num.length ≤ 1000000 ∧ (chooseS l now age rev costs mask lr lh).1.2.2.den.length ≤ 1000000 := by
  have hz : zR.num.length ≤ 1000000 ∧ zR.den.length ≤ 1000000 := ⟨by decide, by decide⟩
  unfold chooseS
  split
  · exact hz
  · split
    · exact hz
    · split
      · exact hz
      · split
        · exact hz
        · rename_i b hb
          dsimp only
          have hlt := bestC_lt hb
          have := (wideB_0 h).2 b hlt
          omega

def achJ (A : Nat) (ac am : Option Addr) (cc cm : Nat) (costs : List RR) (mask : List Bool) (j : Nat) (v : Value) (W : World) : Prop :=
  match j with
  | 0 => v = .pointer (some ⟨A, 4, none⟩)
  | 1 => v = .slice ac costs.length cc
  | 2 => ∃ a1 c1, v = .slice a1 costs.length c1 ∧ RdRs W (.slice a1 costs.length c1) costs
  | 3 => v = .pointer (some ⟨A, 5, none⟩)
  | 4 => v = .slice am mask.length cm
  | 5 => ∃ a1 c1, v = .slice a1 mask.length c1 ∧ Rd W (.slice a1 mask.length c1) (mask.map Value.bool)
  | 6 => ∃ a1 c1, v = .slice a1 costs.length c1 ∧ RdRs W (.slice a1 costs.length c1) costs
  | 7 => ∃ a1 c1, v = .slice a1 mask.length c1 ∧ Rd W (.slice a1 mask.length c1) (mask.map Value.bool)
  | _ => True
theorem achJ_ext {A : Nat} {ac am : Option Addr} {cc cm : Nat} {costs : List RR} {mask : List Bool} {j : Nat} {v : Value} {W W' : World} (h : achJ A ac am cc cm costs mask j v W) (x : Ext W W') : achJ A ac am cc cm costs mask j v W' := by
  match j, h with
  | 0, h => exact h
  | 1, h => exact h
  | 2, ⟨a1, c1, h1, h2⟩ => exact ⟨a1, c1, h1, h2.ext x⟩
  | 3, h => exact h
  | 4, h => exact h
  | 5, ⟨a1, c1, h1, h2⟩ => exact ⟨a1, c1, h1, h2.ext x⟩
  | 6, ⟨a1, c1, h1, h2⟩ => exact ⟨a1, c1, h1, h2.ext x⟩
  | 7, ⟨a1, c1, h1, h2⟩ => exact ⟨a1, c1, h1, h2.ext x⟩
  | _ + 8, _ => trivial

set_option maxRecDepth 100000 in
set_option maxHeartbeats 8000000 in
theorem achoL_any (v : Value) (l : List Bnd) (now age rev : Int) (costs : List RR) (mask : List Bool) (lr lh : Int) (w : World) (h : RdCase w v l now age rev costs mask lr lh) :
    Calls Tryz.prog 4 #[v] w fun e w' => e = .returned (.bool true) ∧ Ext w w' := by
  obtain ⟨vl, vc, vm, rfl, hl, hc, hm, hlim, -, ga, gr, -, -⟩ := h
  replace hl : RdBnd w vl l := hl
  have HL := Lib.hid hl; have HC := Lib.hid hc; have HM := Lib.hid hm; have HLM := Lib.hid hlim
  have hlo := fun W (x : Ext w W) => longC_any vl vc vm l now age rev costs mask lr lh W (hl.ext x) (hc.ext x) (hm.ext x)
  have hra := fun W h => refAllowed28_any vl l now age rev lr lh W h
  have hpa := fun W h => allowed_any vl l now age rev lr lh W h
  have hrc := fun W h1 h2 h3 => refChoose_any vl vc vm l now age rev costs mask lr lh W h1 h2 h3 hlim ga.1 gr.1
  have hpc := fun W v2 v3 h1 h2 h3 => choose_any vl v2 v3 l now age rev costs mask lr lh W h1 h2 h3 hlim ga.1 gr.1
  obtain ⟨al, cl, rfl, hlc, hlm1, -⟩ := hl.get
  obtain ⟨ac, cc, rfl, hcc, hcm, f, hr⟩ := hc.get
  obtain ⟨am, cm, rfl, hmc, hmm, hmr⟩ := rdB_get hm
  clear hl hc hm hlim hmr hr f hlc hlm1 hcc hcm hmc hmm
  obtain ⟨lb, hlb⟩ : ∃ x, x = longB l costs mask := ⟨_, rfl⟩
  rw [← hlb] at hlo
  obtain ⟨S, hS⟩ : ∃ S, S = allowS l now age rev lr lh := ⟨_, rfl⟩
  rw [← hS] at hra hpa
  clear hS
  have hsh : wideB costs = false → _ := fun h => choose_shr (l := l) (now := now) (age := age) (rev := rev) (mask := mask) (lr := lr) (lh := lh) h
  obtain ⟨R, hR⟩ : ∃ R, R = chooseS l now age rev costs mask lr lh := ⟨_, rfl⟩
  rw [← hR] at hrc hpc hsh
  clear hR
  obtain ⟨⟨jn, K, r⟩, ⟨m1, m2, m3⟩, er⟩ := R
  obtain ⟨sl, se⟩ := S
  unfold ResD at hrc
  unfold ResC at hpc
  dsimp only at hra hpa hrc hpc hsh
  have HLO := Lib.hid hlo; have HLB := Lib.hid hlb; have HRA := Lib.hid hra; have HPA := Lib.hid hpa; have HRC := Lib.hid hrc; have HPC := Lib.hid hpc; have HSH := Lib.hid hsh
  clear hlo hlb hra hpa hrc hpc hsh ga gr
  have bb0 := (Blk.new w #[.slice al l.length cl, .int .i64 now, .int .i64 age, .int .i64 rev, .slice ac costs.length cc, .slice am mask.length cm, .int .i64 lr, .int .i64 lh] 53)
  have x0 : Ext w (w.alloc (.cells #[.slice al l.length cl, .int .i64 now, .int .i64 age, .int .i64 rev, .slice ac costs.length cc, .slice am mask.length cm, .int .i64 lr, .int .i64 lh] 53)) := ((Ext.refl w).alloc _)
  have A0 := Lib.hid bb0; have X := Lib.hid x0
  clear x0 bb0
  have HL := Lib.hid (HL.out.ext X.out); have HM := Lib.hid (HM.out.ext X.out); have HC := Lib.hid (HC.out.ext X.out)
  go_enter Tryz.func4, Tryz.ntmps4
  have qA0 := A0.out.cell; have fA0 := A0.out.free; have lA0 := A0.out.lt
  go_wp2_with fail
  refine (HLO.out _ X.out).mono ?_
  rintro e w1 ⟨rfl, hx⟩
  clear qA0 fA0 lA0
  have HL := Lib.hid (HL.out.ext hx); have HM := Lib.hid (HM.out.ext hx); have HC := Lib.hid (HC.out.ext hx); have A0 := Lib.hid (A0.out.ext hx); have X := Lib.hid (X.out.trans hx)
  clear hx
  cases lb
  rotate_left
  · go_wp2_with fail
    refine (awake28_any _).mono ?_
    rintro e w90 ⟨rfl, hx⟩
    have X := Lib.hid (X.out.trans hx)
    clear hx
    go_wp2_with fail
    go_ret
    exact ⟨rfl, X.out⟩
  obtain ⟨g1, g2, g3⟩ := longB_0 HLB.out.symm
  have SH := Lib.hid (HSH.out g3)
  have g4 := (wideB_0 g3).1
  have HW := Lib.hid (fun i hi => And.intro (Nat.le_trans ((wideB_0 g3).2 i hi).1 (by decide : 20 ≤ 1000000)) (Nat.le_trans ((wideB_0 g3).2 i hi).2 (by decide : 20 ≤ 1000000)))
  clear g3 HSH HLB
  go_wp2_with fail
  obtain ⟨wi, hwi⟩ : ∃ W, W = w1 := ⟨_, rfl⟩
  rw [← hwi] at A0 HL HM HC X ⊢
  clear hwi
  obtain ⟨An, hAn⟩ : ∃ n, n = w.heap.size := ⟨_, rfl⟩
  rw [← hAn] at A0 ⊢
  clear hAn
  refine wp_region_each (achJ An ac am cc cm costs mask) (by kernel_rfl) (by kernel_rfl) (by kernel_rfl) (fun _ _ _ _ h x => achJ_ext h x) ?_ ?_
  · refine ⟨?_, ?_, ?_, ?_, ?_, ?_, ?_, ?_, trivial⟩
    · intro a W hW hB hD K hK
      have b1 := hB 1 rfl
      simp only [Array.getD_eq_getD_getElem?, List.getElem?_toArray, List.getElem?_cons_succ, List.getElem?_cons_zero, Option.getD_some] at b1
      go_simp; exact hK _ _ (Ext.refl _) rfl
    · intro a W hW hB hD K hK
      obtain ⟨v20, e20⟩ : ∃ x, a.tmps.getD 20 undef = x := ⟨_, rfl⟩
      have h20 := hD 0 _ 20 rfl rfl (by kernel_rfl)
      rw [e20] at h20
      simp only [Array.getD_eq_getD_getElem?] at e20
      obtain rfl := h20
      have q9 := (A0.out.ext hW).cell; have l9 := (A0.out.ext hW).lt
      go_simp; exact hK _ _ (Ext.refl _) rfl
    · intro a W hW hB hD K hK
      obtain ⟨v21, e21⟩ : ∃ x, a.tmps.getD 21 undef = x := ⟨_, rfl⟩
      have h21 := hD 1 _ 21 rfl rfl (by kernel_rfl)
      rw [e21] at h21
      simp only [Array.getD_eq_getD_getElem?] at e21
      obtain rfl := h21
      go_simp
      refine (copyRats_any _ costs _ (HC.out.ext hW) (by omega) HW.out).mono ?_
      rintro e w9 ⟨⟨v, rfl, ho⟩, hx⟩
      obtain ⟨a9, c9, rfl, -⟩ := OwRow.rdN ho
      exact hK _ _ hx ⟨_, _, rfl, OwRs.rd ho⟩
    · intro a W hW hB hD K hK
      have b1 := hB 1 rfl
      simp only [Array.getD_eq_getD_getElem?, List.getElem?_toArray, List.getElem?_cons_succ, List.getElem?_cons_zero, Option.getD_some] at b1
      go_simp; exact hK _ _ (Ext.refl _) rfl
    · intro a W hW hB hD K hK
      obtain ⟨v23, e23⟩ : ∃ x, a.tmps.getD 23 undef = x := ⟨_, rfl⟩
      have h23 := hD 3 _ 23 rfl rfl (by kernel_rfl)
      rw [e23] at h23
      simp only [Array.getD_eq_getD_getElem?] at e23
      obtain rfl := h23
      have q9 := (A0.out.ext hW).cell; have l9 := (A0.out.ext hW).lt
      go_simp; exact hK _ _ (Ext.refl _) rfl
    · intro a W hW hB hD K hK
      obtain ⟨v24, e24⟩ : ∃ x, a.tmps.getD 24 undef = x := ⟨_, rfl⟩
      have h24 := hD 4 _ 24 rfl rfl (by kernel_rfl)
      rw [e24] at h24
      simp only [Array.getD_eq_getD_getElem?] at e24
      obtain rfl := h24
      go_simp
      refine (copyBools_any _ mask _ (HM.out.ext hW) (by omega)).mono ?_
      rintro e w9 ⟨⟨v, rfl, ho⟩, hx⟩
      obtain ⟨a9, c9, rfl⟩ : ∃ a c, v = .slice a mask.length c := by
        obtain ⟨a, c, e, _⟩ := rdB_get (OwBo.rd ho)
        exact ⟨a, c, e⟩
      exact hK _ _ hx ⟨_, _, rfl, OwBo.rd ho⟩
    · intro a W hW hB hD K hK
      obtain ⟨v22, e22⟩ : ∃ x, a.tmps.getD 22 undef = x := ⟨_, rfl⟩
      have h22 := hD 2 _ 22 rfl rfl (by kernel_rfl)
      rw [e22] at h22
      simp only [Array.getD_eq_getD_getElem?] at e22
      obtain ⟨a1, c1, rfl, eh⟩ := h22
      go_simp
      exact hK _ _ (Ext.refl _) ⟨_, _, rfl, eh⟩
    · intro a W hW hB hD K hK
      obtain ⟨v25, e25⟩ : ∃ x, a.tmps.getD 25 undef = x := ⟨_, rfl⟩
      have h25 := hD 5 _ 25 rfl rfl (by kernel_rfl)
      rw [e25] at h25
      simp only [Array.getD_eq_getD_getElem?] at e25
      obtain ⟨a1, c1, rfl, eh⟩ := h25
      go_simp
      exact hK _ _ (Ext.refl _) ⟨_, _, rfl, eh⟩
  intro w9 hx
  simp only [Vals, List.take_succ_cons, List.take_zero, List.drop_succ_cons, List.drop_zero]
  rintro u0 - u1 - u2 - u3 - u4 - u5 - u6 ⟨ia, ic, rfl, hin⟩ u7 ⟨ma, mc, rfl, hmk⟩
  simp only [Act.put, List.setIfInBounds_toArray, List.set_cons_zero, List.set_cons_succ]
  have HL := Lib.hid (HL.out.ext hx); have HM := Lib.hid (HM.out.ext hx); have HC := Lib.hid (HC.out.ext hx); have A0 := Lib.hid (A0.out.ext hx); have X := Lib.hid (X.out.trans hx)
  have IN := Lib.hid hin; have MK := Lib.hid hmk
  clear hx hin hmk
  have qA0 := A0.out.cell; have fA0 := A0.out.free; have lA0 := A0.out.lt
  go_wp2_with fail
  refine (HRA.out _ HL.out).mono ?_
  rintro e w2 ⟨⟨v1, rfl, ho⟩, hx⟩
  clear qA0 fA0 lA0
  have HL := Lib.hid (HL.out.ext hx); have HM := Lib.hid (HM.out.ext hx); have HC := Lib.hid (HC.out.ext hx); have A0 := Lib.hid (A0.out.ext hx); have IN := Lib.hid (IN.out.ext hx); have MK := Lib.hid (MK.out.ext hx); have X := Lib.hid (X.out.trans hx)
  have WN := Lib.hid (OwBo.rd ho)
  obtain ⟨wa, wc, rfl, -, -, -⟩ := rdB_get WN.out
  clear ho hx HRA
  have qA0 := A0.out.cell; have fA0 := A0.out.free; have lA0 := A0.out.lt
  go_wp2_with fail
  refine (HRC.out _ HL.out HC.out HM.out).mono ?_
  rintro e w3 ⟨⟨vn, vd, rfl, nn1, nn2⟩, hx⟩
  clear qA0 fA0 lA0
  have HL := Lib.hid (HL.out.ext hx); have HM := Lib.hid (HM.out.ext hx); have HC := Lib.hid (HC.out.ext hx); have A0 := Lib.hid (A0.out.ext hx); have IN := Lib.hid (IN.out.ext hx); have MK := Lib.hid (MK.out.ext hx); have WN := Lib.hid (WN.out.ext hx); have X := Lib.hid (X.out.trans hx)
  obtain ⟨n1, n2, rfl⟩ := rdU_shape nn1
  obtain ⟨d1, d2, rfl⟩ := rdU_shape nn2
  have ND := Lib.hid (show RdR _ (.agg #[.bool r.neg, .slice n1 r.num.length n2, .slice d1 r.den.length d2]) r from ⟨_, _, rfl, nn1, nn2⟩)
  clear nn1 nn2 hx HRC
  have qA0 := A0.out.cell; have fA0 := A0.out.free; have lA0 := A0.out.lt
  go_wp2_with fail
  clear qA0 fA0 lA0
  have hxa : Ext w3 ((w3.alloc (.cells #[.int .i64 jn, .int .u8 K, .bool r.neg, .slice n1 r.num.length n2, .slice d1 r.den.length d2] 64)).alloc (.cells #[.int .i64 m1, .int .i64 m2, .int .i64 m3] 47)) := ((Ext.refl _).alloc _).alloc _
  have hd := (Blk.new w3 #[.int .i64 jn, .int .u8 K, .bool r.neg, .slice n1 r.num.length n2, .slice d1 r.den.length d2] 64).alloc (.cells #[.int .i64 m1, .int .i64 m2, .int .i64 m3] 47)
  have hm2 := Blk.new (w3.alloc (.cells #[.int .i64 jn, .int .u8 K, .bool r.neg, .slice n1 r.num.length n2, .slice d1 r.den.length d2] 64)) #[.int .i64 m1, .int .i64 m2, .int .i64 m3] 47
  rw [World.size_alloc] at hm2
  obtain ⟨Dn, hDn⟩ : ∃ n, n = w3.heap.size := ⟨_, rfl⟩
  rw [← hDn] at hd hm2 ⊢
  obtain ⟨w4, hw4⟩ : ∃ W, W = (w3.alloc (.cells #[.int .i64 jn, .int .u8 K, .bool r.neg, .slice n1 r.num.length n2, .slice d1 r.den.length d2] 64)).alloc (.cells #[.int .i64 m1, .int .i64 m2, .int .i64 m3] 47) := ⟨_, rfl⟩
  rw [← hw4] at hxa hd hm2 ⊢; clear hw4 hDn
  have HL := Lib.hid (HL.out.ext hxa); have HM := Lib.hid (HM.out.ext hxa); have HC := Lib.hid (HC.out.ext hxa); have A0 := Lib.hid (A0.out.ext hxa); have IN := Lib.hid (IN.out.ext hxa); have MK := Lib.hid (MK.out.ext hxa); have WN := Lib.hid (WN.out.ext hxa); have ND := Lib.hid (ND.out.ext hxa); have X := Lib.hid (X.out.trans hxa)
  have BD := Lib.hid hd; have BE := Lib.hid hm2; clear hxa hd hm2
  have qA0 := A0.out.cell; have fA0 := A0.out.free; have lA0 := A0.out.lt; have qBD := BD.out.cell; have fBD := BD.out.free; have lBD := BD.out.lt
  refine (copyRat_any _ r _ ND.out SH.out).mono ?_
  rintro e w5 ⟨⟨v, rfl, nn⟩, hx⟩
  clear qA0 fA0 lA0 qBD fBD lBD
  have HL := Lib.hid (HL.out.ext hx); have HM := Lib.hid (HM.out.ext hx); have HC := Lib.hid (HC.out.ext hx); have A0 := Lib.hid (A0.out.ext hx); have IN := Lib.hid (IN.out.ext hx); have MK := Lib.hid (MK.out.ext hx); have WN := Lib.hid (WN.out.ext hx); have ND := Lib.hid (ND.out.ext hx); have BD := Lib.hid (BD.out.ext hx); have BE := Lib.hid (BE.out.ext hx); have X := Lib.hid (X.out.trans hx)
  obtain ⟨y1, y2, y3, y4, rfl⟩ := nn.shape
  have NC := Lib.hid nn.rd
  clear nn hx
  go_wp2_with fail
  have hxa : Ext w5 (w5.alloc (.cells #[.bool r.neg, .slice y1 r.num.length y2, .slice y3 r.den.length y4] 62)) := (Ext.refl _).alloc _
  have hd := Blk.new w5 #[.bool r.neg, .slice y1 r.num.length y2, .slice y3 r.den.length y4] 62
  obtain ⟨Yn, hYn⟩ : ∃ n, n = w5.heap.size := ⟨_, rfl⟩
  rw [← hYn] at hd ⊢
  obtain ⟨wc, hwc⟩ : ∃ W, W = w5.alloc (.cells #[.bool r.neg, .slice y1 r.num.length y2, .slice y3 r.den.length y4] 62) := ⟨_, rfl⟩
  rw [← hwc] at hxa hd ⊢
  clear hwc hYn
  have HL := Lib.hid (HL.out.ext hxa); have HM := Lib.hid (HM.out.ext hxa); have HC := Lib.hid (HC.out.ext hxa); have A0 := Lib.hid (A0.out.ext hxa); have IN := Lib.hid (IN.out.ext hxa); have MK := Lib.hid (MK.out.ext hxa); have WN := Lib.hid (WN.out.ext hxa); have ND := Lib.hid (ND.out.ext hxa); have BD := Lib.hid (BD.out.ext hxa); have BE := Lib.hid (BE.out.ext hxa); have NC := Lib.hid (NC.out.ext hxa); have X := Lib.hid (X.out.trans hxa)
  have BY := Lib.hid hd; clear hxa hd
  go_loopw [11] (fun i wr => ∃ k : Nat, k ≤ 2 ∧ i = .int .i64 k ∧ Ext wc wr) (fun i _ => 2 - (intOf i).toNat)
  case atStart => exact ⟨0, by omega, rfl, Ext.refl wc⟩
  case round =>
    obtain ⟨wk, hwk⟩ : ∃ W, W = wr := ⟨_, rfl⟩
    subst hwk
    obtain ⟨k, hk, rfl, hx⟩ := hrel
    have HL := Lib.hid (HL.out.ext hx); have HM := Lib.hid (HM.out.ext hx); have HC := Lib.hid (HC.out.ext hx); have A0 := Lib.hid (A0.out.ext hx); have IN := Lib.hid (IN.out.ext hx); have MK := Lib.hid (MK.out.ext hx); have WN := Lib.hid (WN.out.ext hx); have ND := Lib.hid (ND.out.ext hx); have BD := Lib.hid (BD.out.ext hx); have BE := Lib.hid (BE.out.ext hx); have NC := Lib.hid (NC.out.ext hx); have BY := Lib.hid (BY.out.ext hx)
    have XC := Lib.hid hx; have X0 := X; have X := Lib.hid (Ext.refl wk)
    clear hx
    by_cases hlt : k < 2
    · have q1 : (k : Int) < (2 : Int) := by omega
      have qA0 := A0.out.cell; have fA0 := A0.out.free; have lA0 := A0.out.lt
      go_wp2_with fail
      refine (HPA.out _ HL.out).mono ?_
      rintro e w6 ⟨⟨v2, rfl, ho⟩, hx⟩
      clear qA0 fA0 lA0
      have HL := Lib.hid (HL.out.ext hx); have HM := Lib.hid (HM.out.ext hx); have HC := Lib.hid (HC.out.ext hx); have A0 := Lib.hid (A0.out.ext hx); have IN := Lib.hid (IN.out.ext hx); have MK := Lib.hid (MK.out.ext hx); have WN := Lib.hid (WN.out.ext hx); have ND := Lib.hid (ND.out.ext hx); have BD := Lib.hid (BD.out.ext hx); have BE := Lib.hid (BE.out.ext hx); have NC := Lib.hid (NC.out.ext hx); have BY := Lib.hid (BY.out.ext hx); have X := Lib.hid (X.out.trans hx)
      have OM := Lib.hid ho
      obtain ⟨oa, oc, rfl, -, -, -⟩ := rdB_get (OwBo.rd ho)
      clear ho hx
      have WXB := Lib.hid X.out.size
      have qA0 := A0.out.cell; have fA0 := A0.out.free; have lA0 := A0.out.lt
      go_wp2_with fail
      refine (HPC.out _ _ _ HL.out IN.out MK.out).mono ?_
      rintro e w7 ⟨⟨vn, vd, rfl, nn1, nn2⟩, hx⟩
      clear qA0 fA0 lA0
      have HL := Lib.hid (HL.out.ext hx); have HM := Lib.hid (HM.out.ext hx); have HC := Lib.hid (HC.out.ext hx); have A0 := Lib.hid (A0.out.ext hx); have IN := Lib.hid (IN.out.ext hx); have MK := Lib.hid (MK.out.ext hx); have WN := Lib.hid (WN.out.ext hx); have ND := Lib.hid (ND.out.ext hx); have BD := Lib.hid (BD.out.ext hx); have BE := Lib.hid (BE.out.ext hx); have NC := Lib.hid (NC.out.ext hx); have BY := Lib.hid (BY.out.ext hx); have OM := Lib.hid (OM.out.ext hx); have X := Lib.hid (X.out.trans hx)
      obtain ⟨x1, x2, rfl⟩ := nn1.shape
      obtain ⟨x3, x4, rfl⟩ := nn2.shape
      have NX := Lib.hid (show RdR _ (.agg #[.bool r.neg, .slice x1 r.num.length x2, .slice x3 r.den.length x4]) r from ⟨_, _, rfl, nn1.rd, nn2.rd⟩)
      have WX1 := Lib.hid (WrU.new nn1 (Nat.le_refl _)); have WX2 := Lib.hid (WrU.new nn2 (Nat.le_refl _))
      clear nn1 nn2 hx
      have qA0 := A0.out.cell; have fA0 := A0.out.free; have lA0 := A0.out.lt
      go_wp2_with fail
      clear qA0 fA0 lA0
      have hxa : Ext w7 ((w7.alloc (.cells #[.int .i64 jn, .int .u8 K, .bool r.neg, .slice x1 r.num.length x2, .slice x3 r.den.length x4] 64)).alloc (.cells #[.int .i64 m1, .int .i64 m2, .int .i64 m3] 47)) := ((Ext.refl _).alloc _).alloc _
      have hd := (Blk.new w7 #[.int .i64 jn, .int .u8 K, .bool r.neg, .slice x1 r.num.length x2, .slice x3 r.den.length x4] 64).alloc (.cells #[.int .i64 m1, .int .i64 m2, .int .i64 m3] 47)
      have hm2 := Blk.new (w7.alloc (.cells #[.int .i64 jn, .int .u8 K, .bool r.neg, .slice x1 r.num.length x2, .slice x3 r.den.length x4] 64)) #[.int .i64 m1, .int .i64 m2, .int .i64 m3] 47
      rw [World.size_alloc] at hm2
      obtain ⟨En, hDn⟩ : ∃ n, n = w7.heap.size := ⟨_, rfl⟩
      rw [← hDn] at hd hm2 ⊢
      obtain ⟨w8, hw8⟩ : ∃ W, W = (w7.alloc (.cells #[.int .i64 jn, .int .u8 K, .bool r.neg, .slice x1 r.num.length x2, .slice x3 r.den.length x4] 64)).alloc (.cells #[.int .i64 m1, .int .i64 m2, .int .i64 m3] 47) := ⟨_, rfl⟩
      rw [← hw8] at hxa hd hm2 ⊢; clear hw8 hDn
      have HL := Lib.hid (HL.out.ext hxa); have HM := Lib.hid (HM.out.ext hxa); have HC := Lib.hid (HC.out.ext hxa); have A0 := Lib.hid (A0.out.ext hxa); have IN := Lib.hid (IN.out.ext hxa); have MK := Lib.hid (MK.out.ext hxa); have WN := Lib.hid (WN.out.ext hxa); have ND := Lib.hid (ND.out.ext hxa); have BD := Lib.hid (BD.out.ext hxa); have BE := Lib.hid (BE.out.ext hxa); have NC := Lib.hid (NC.out.ext hxa); have BY := Lib.hid (BY.out.ext hxa); have OM := Lib.hid (OM.out.ext hxa); have NX := Lib.hid (NX.out.ext hxa); have WX1 := Lib.hid (WX1.out.ext hxa); have WX2 := Lib.hid (WX2.out.ext hxa); have X := Lib.hid (X.out.trans hxa)
      have BF := Lib.hid hd; have BG := Lib.hid hm2; clear hxa hd hm2
      have hE : ∀ W, (binOp .neq 47 (.agg #[.int .i64 m1, .int .i64 m2, .int .i64 m3]) (.agg #[.int .i64 m1, .int .i64 m2, .int .i64 m3])).run Tryz.prog W = .ok (.bool false) W := fun W => by rw [neqMem, beqD_self]; rfl
      have qA0 := A0.out.cell; have fA0 := A0.out.free; have lA0 := A0.out.lt; have qBD := BD.out.cell; have fBD := BD.out.free; have lBD := BD.out.lt; have qBE := BE.out.cell; have fBE := BE.out.free; have lBE := BE.out.lt; have qBY := BY.out.cell; have fBY := BY.out.free; have lBY := BY.out.lt; have qBF := BF.out.cell; have fBF := BF.out.free; have lBF := BF.out.lt; have qBG := BG.out.cell; have fBG := BG.out.free; have lBG := BG.out.lt
      refine (equalBools_any _ _ sl sl _ (OwBo.rd OM.out) WN.out).mono ?_
      rintro e w9 ⟨rfl, hx⟩
      clear qA0 fA0 lA0 qBD fBD lBD qBE fBE lBE qBY fBY lBY qBF fBF lBF qBG fBG lBG
      have HL := Lib.hid (HL.out.ext hx); have HM := Lib.hid (HM.out.ext hx); have HC := Lib.hid (HC.out.ext hx); have A0 := Lib.hid (A0.out.ext hx); have IN := Lib.hid (IN.out.ext hx); have MK := Lib.hid (MK.out.ext hx); have WN := Lib.hid (WN.out.ext hx); have ND := Lib.hid (ND.out.ext hx); have BD := Lib.hid (BD.out.ext hx); have BE := Lib.hid (BE.out.ext hx); have NC := Lib.hid (NC.out.ext hx); have BY := Lib.hid (BY.out.ext hx); have OM := Lib.hid (OM.out.ext hx); have NX := Lib.hid (NX.out.ext hx); have WX1 := Lib.hid (WX1.out.ext hx); have WX2 := Lib.hid (WX2.out.ext hx); have BF := Lib.hid (BF.out.ext hx); have BG := Lib.hid (BG.out.ext hx); have X := Lib.hid (X.out.trans hx)
      clear hx
      rw [decide_eq_true rfl]
      have qA0 := A0.out.cell; have fA0 := A0.out.free; have lA0 := A0.out.lt; have qBD := BD.out.cell; have fBD := BD.out.free; have lBD := BD.out.lt; have qBE := BE.out.cell; have fBE := BE.out.free; have lBE := BE.out.lt; have qBY := BY.out.cell; have fBY := BY.out.free; have lBY := BY.out.lt; have qBF := BF.out.cell; have fBF := BF.out.free; have lBF := BF.out.lt; have qBG := BG.out.cell; have fBG := BG.out.free; have lBG := BG.out.lt
      go_wp2_with fail
      refine (equalRat_any _ _ r r _ NX.out NC.out).mono ?_
      rintro e w10 ⟨rfl, hx⟩
      clear qA0 fA0 lA0 qBD fBD lBD qBE fBE lBE qBY fBY lBY qBF fBF lBF qBG fBG lBG
      have HL := Lib.hid (HL.out.ext hx); have HM := Lib.hid (HM.out.ext hx); have HC := Lib.hid (HC.out.ext hx); have A0 := Lib.hid (A0.out.ext hx); have IN := Lib.hid (IN.out.ext hx); have MK := Lib.hid (MK.out.ext hx); have WN := Lib.hid (WN.out.ext hx); have ND := Lib.hid (ND.out.ext hx); have BD := Lib.hid (BD.out.ext hx); have BE := Lib.hid (BE.out.ext hx); have NC := Lib.hid (NC.out.ext hx); have BY := Lib.hid (BY.out.ext hx); have OM := Lib.hid (OM.out.ext hx); have NX := Lib.hid (NX.out.ext hx); have WX1 := Lib.hid (WX1.out.ext hx); have WX2 := Lib.hid (WX2.out.ext hx); have BF := Lib.hid (BF.out.ext hx); have BG := Lib.hid (BG.out.ext hx); have X := Lib.hid (X.out.trans hx)
      clear hx
      rw [decide_eq_true rfl]
      have qA0 := A0.out.cell; have fA0 := A0.out.free; have lA0 := A0.out.lt; have qBD := BD.out.cell; have fBD := BD.out.free; have lBD := BD.out.lt; have qBE := BE.out.cell; have fBE := BE.out.free; have lBE := BE.out.lt; have qBY := BY.out.cell; have fBY := BY.out.free; have lBY := BY.out.lt; have qBF := BF.out.cell; have fBF := BF.out.free; have lBF := BF.out.lt; have qBG := BG.out.cell; have fBG := BG.out.free; have lBG := BG.out.lt
      go_wp2_with fail
      refine (equalRats_any _ _ costs costs _ IN.out HC.out).mono ?_
      rintro e w11 ⟨rfl, hx⟩
      clear qA0 fA0 lA0 qBD fBD lBD qBE fBE lBE qBY fBY lBY qBF fBF lBF qBG fBG lBG
      have HL := Lib.hid (HL.out.ext hx); have HM := Lib.hid (HM.out.ext hx); have HC := Lib.hid (HC.out.ext hx); have A0 := Lib.hid (A0.out.ext hx); have IN := Lib.hid (IN.out.ext hx); have MK := Lib.hid (MK.out.ext hx); have WN := Lib.hid (WN.out.ext hx); have ND := Lib.hid (ND.out.ext hx); have BD := Lib.hid (BD.out.ext hx); have BE := Lib.hid (BE.out.ext hx); have NC := Lib.hid (NC.out.ext hx); have BY := Lib.hid (BY.out.ext hx); have OM := Lib.hid (OM.out.ext hx); have NX := Lib.hid (NX.out.ext hx); have WX1 := Lib.hid (WX1.out.ext hx); have WX2 := Lib.hid (WX2.out.ext hx); have BF := Lib.hid (BF.out.ext hx); have BG := Lib.hid (BG.out.ext hx); have X := Lib.hid (X.out.trans hx)
      clear hx
      rw [decide_eq_true rfl]
      have qA0 := A0.out.cell; have fA0 := A0.out.free; have lA0 := A0.out.lt; have qBD := BD.out.cell; have fBD := BD.out.free; have lBD := BD.out.lt; have qBE := BE.out.cell; have fBE := BE.out.free; have lBE := BE.out.lt; have qBY := BY.out.cell; have fBY := BY.out.free; have lBY := BY.out.lt; have qBF := BF.out.cell; have fBF := BF.out.free; have lBF := BF.out.lt; have qBG := BG.out.cell; have fBG := BG.out.free; have lBG := BG.out.lt
      go_wp2_with fail
      refine (equalBools_any _ _ mask mask _ MK.out HM.out).mono ?_
      rintro e w12 ⟨rfl, hx⟩
      clear qA0 fA0 lA0 qBD fBD lBD qBE fBE lBE qBY fBY lBY qBF fBF lBF qBG fBG lBG
      have HL := Lib.hid (HL.out.ext hx); have HM := Lib.hid (HM.out.ext hx); have HC := Lib.hid (HC.out.ext hx); have A0 := Lib.hid (A0.out.ext hx); have IN := Lib.hid (IN.out.ext hx); have MK := Lib.hid (MK.out.ext hx); have WN := Lib.hid (WN.out.ext hx); have ND := Lib.hid (ND.out.ext hx); have BD := Lib.hid (BD.out.ext hx); have BE := Lib.hid (BE.out.ext hx); have NC := Lib.hid (NC.out.ext hx); have BY := Lib.hid (BY.out.ext hx); have OM := Lib.hid (OM.out.ext hx); have NX := Lib.hid (NX.out.ext hx); have WX1 := Lib.hid (WX1.out.ext hx); have WX2 := Lib.hid (WX2.out.ext hx); have BF := Lib.hid (BF.out.ext hx); have BG := Lib.hid (BG.out.ext hx); have X := Lib.hid (X.out.trans hx)
      clear hx
      rw [decide_eq_true rfl]
      go_wp2_with fail
      refine (overBools_any _ sl _ _ OM.out).mono ?_
      rintro e w13 ⟨rfl, hkp⟩
      have WX1 := Lib.hid (WX1.out.keeps hkp (by decide)); have WX2 := Lib.hid (WX2.out.keeps hkp (by decide)); have BF := Lib.hid (Blk.keeps BF.out hkp (by decide))
      have X := Lib.hid (Below.trans X.out (hkp.below X.out.size))
      clear hkp hE
      have qBF := BF.out.cell; have fBF := BF.out.free; have lBF := BF.out.lt
      go_wp2_with fail
      refine (overRatU_any _ _ _ _ _ _ _ WX1.out WX2.out SH.out).mono ?_
      rintro e w14 ⟨rfl, hg⟩
      have X := Lib.hid (GrU.ext X.out hg WXB.out)
      clear hg
      clear qBF fBF lBF
      go_wp2_with fail
      go_roundw
      case rel => exact ⟨k + 1, by omega, by go_num, XC.out.trans X.out⟩
      case measure => simp [intOf]; omega
    · obtain rfl : k = 2 := by omega
      have X := Lib.hid (X0.out.trans XC.out)
      clear X0
      go_wp2_with fail
      refine (awake28_any _).mono ?_
      rintro e w90 ⟨rfl, hx⟩
      have X := Lib.hid (X.out.trans hx)
      clear hx
      go_wp2_with fail
      go_ret
      exact ⟨rfl, X.out⟩

end Go.Proofs.YthkfkfbfblppeaaGreat
