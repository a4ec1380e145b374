/- Lemmas and walks of this claim. Conditions: as each states. -/
import Derived.Test.YtnkekhpdaofmhaaSqAw22
import Derived.Test.YtnkekhpdaofmhaaSqLong22b
import Derived.Test.YtnkekhpdaofmhaaSqScP
import Derived.Test.YtnkekhpdaofmhaaSqItO
import Derived.Test.YtnkekhpdaofmhaaSqBigRow
import Derived.Test.YtnkekhpdaofmhaaSqEach
import Derived.Test.YtnkekhpdaofmhaaSqUpR
import Derived.ChangeMaps5
set_option linter.unusedVariables false
set_option linter.unusedSimpArgs false
namespace Go.Proofs.Ytnkekhpdaofmhaa
open Go.RowKit
def opJ (pa pb : Option Addr) (ca cb na nb k ba oa bb ob : Nat) (p y : RR) (c ec : Int) (j : Nat) (v : Value) (W : World) : Prop :=
 match j with
 | 0 => v = .slice pa na ca
 | 1 => v = .int .i64 k
 | 2 => v = .pointer (some ⟨ba, oa + k * 3, none⟩)
 | 3 => ∃ s1 s2 s3 s4, v = .agg #[.bool p.neg, .slice s1 p.num.length s2, .slice s3 p.den.length s4] ∧ RdR W (.agg #[.bool p.neg, .slice s1 p.num.length s2, .slice s3 p.den.length s4]) p
 | 4 => v = .slice pb nb cb
 | 5 => v = .int .i64 k
 | 6 => v = .pointer (some ⟨bb, ob + k * 3, none⟩)
 | 7 => ∃ s1 s2 s3 s4, v = .agg #[.bool y.neg, .slice s1 y.num.length s2, .slice s3 y.den.length s4] ∧ RdR W (.agg #[.bool y.neg, .slice s1 y.num.length s2, .slice s3 y.den.length s4]) y
 | 8 => v = .tuple #[.int .i64 c, .int .i64 ec]
 | 9 => v = .tuple #[.int .i64 c, .int .i64 ec]
 | 10 => v = .int .i64 c
 | 11 => v = .int .i64 ec
 | _ => True
theorem opJ_ext {pa pb : Option Addr} {ca cb na nb k ba oa bb ob : Nat} {p y : RR} {c ec : Int} {j : Nat} {v : Value} {W W' : World} (h : opJ pa pb ca cb na nb k ba oa bb ob p y c ec j v W) (x : Ext W W') : opJ pa pb ca cb na nb k ba oa bb ob p y c ec j v W' := by
 match j, h with
 | 0, h => exact h
 | 1, h => exact h
 | 2, h => exact h
 | 3, ⟨s1, s2, s3, s4, h1, h2⟩ => exact ⟨s1, s2, s3, s4, h1, h2.ext x⟩
 | 4, h => exact h
 | 5, h => exact h
 | 6, h => exact h
 | 7, ⟨s1, s2, s3, s4, h1, h2⟩ => exact ⟨s1, s2, s3, s4, h1, h2.ext x⟩
 | 8, h => exact h
 | 9, h => exact h
 | 10, h => exact h
 | 11, h => exact h
 | _ + 12, _ => trivial
theorem opt_plain {m : MD} {v : List RR} {p : List (List Int)} {g : List (List RR)} {q : List (List Int)} {c : Int} (h : stagesS m v (p.length : Int) = (g, q, c)) :
  (c ≠ 0 → g = [] ∧ q = []) ∧ (c = 0 → mvE m v = 0 ∧ stgE m v p.length = 0 ∧ p.length ≤ 24 ∧ g.length = p.length + 1 ∧ q.length = p.length ∧ g.getD 0 [] = v ∧ g.getD p.length [] = stgV m v p.length ∧ (stgV m v p.length).length = m.states.length ∧ planS m v q = (stgV m v p.length, 0)) := by
 constructor
 ·intro hc
  have h1 := stages_bad (m := m) (v := v) (k := (p.length : Int)) (by rw [h]; exact hc)
  rw [h] at h1; exact h1
 ·intro hc
  obtain ⟨h1, h2, h3, h4⟩ := stages_ok (m := m) (v := v) (k := (p.length : Int)) (by rw [h]; exact hc)
  rw [Int.toNat_natCast] at h4
  have h5 := stages_mk h1 h2 h3 (by rw [Int.toNat_natCast]; exact h4)
  rw [Int.toNat_natCast, h] at h5
  injection h5 with e1 e2
  injection e2 with e2 e3
  have hg := greedy_plan h1 (by omega) h4
  rw [← e2] at hg
  refine ⟨h1, h4, by omega, by rw [e1]; simp, by rw [e2]; simp, ?_, ?_, stg_len (mv_valid h1).2 _ (fun i hi => stgE_at h4 hi), hg⟩
  ·rw [e1, List.getD_eq_getElem?_getD, List.getElem?_map, List.getElem?_range (by omega)]; rfl
  ·rw [e1, List.getD_eq_getElem?_getD, List.getElem?_map, List.getElem?_range (by omega)]; rfl
theorem opt_other {m : MD} {v : List RR} {p : List (List Int)} {u : List RR} {c : Int} (h : planS m v p = (u, c)) (h1 : mvE m v = 0) (h2 : stgE m v p.length = 0) (h3 : p.length ≤ 24) (hlv : LimL v) :
  (c ≠ 0 → c = 16 ∨ c = 8 ∨ c = 4) ∧ (c = 0 → u.length = m.states.length ∧ (0 < p.length → ∀ s, s < m.states.length → (cmpR ((stgV m v p.length).getD s zR) (u.getD s zR)).2 = 0 ∧ (cmpR ((stgV m v p.length).getD s zR) (u.getD s zR)).1 ≤ 0 ∧ LimR ((stgV m v p.length).getD s zR) ∧ LimR (u.getD s zR))) := by
 constructor
 ·intro hc
  have h4 := plan_err h1 h3 h2 (by rw [h]; exact hc)
  rw [h] at h4; exact h4
 ·intro hc
  obtain ⟨_, _, h6⟩ := plan_ok (m := m) (v := v) (p := p) (by rw [h]; exact hc)
  have h7 := plan_mk h1 h3 h6
  rw [h] at h7
  injection h7 with e1 e2
  subst e1
  refine ⟨pln_len (mv_valid h1).2 _ (fun i hi => plnE_at h6 hi), fun h0 s hs => ?_⟩
  obtain ⟨k1, k2⟩ := opt_cmp h1 h2 h6 h0 hs
  exact ⟨k1, k2, stgV_lim hlv _ s (by rw [stg_len (mv_valid h1).2 _ (fun i hi => stgE_at h2 hi)]; exact hs), plnV_lim hlv _ s (by rw [pln_len (mv_valid h1).2 _ (fun i hi => plnE_at h6 hi)]; exact hs)⟩
set_option maxRecDepth 100000 in
set_option maxHeartbeats 8000000 in
theorem optL_any (mv vv pv : Value) (m : MD) (vals : List RR) (plan : List (List Int)) (w : World) (hm : RdM w mv m) (hv : RdRs w vv vals) (hp : RdPl w pv plan) (hlm : LimM m) (hlv : LimL vals) :
  Calls Try.prog 3 #[mv, vv, pv] w fun e w' => e = .returned (.bool true) ∧ Ext w w' := by
 obtain ⟨st, hst0⟩ : ∃ s, s = stagesS m vals (plan.length : Int) := ⟨_, rfl⟩
 obtain ⟨g, q, c⟩ := st
 have HPL := kI (opt_plain hst0.symm)
 have hst := fun W mv vv (h : RdM W mv m) (k : RdRs W vv vals) (hln : LenL vals) => stagesI_any mv vv m vals (plan.length : Int) W h k hlm hlv hln
 rw [← hst0] at hst; unfold ResG at hst; dsimp only at hst
 have hpl := fun W mv vv pv (p : List (List Int)) (h : RdM W mv m) (k : RdRs W vv vals) (g : RdPl W pv p) (hln : LenL vals) => planI_any mv vv pv m vals p W h k g hlm hlv hln
 unfold ResN at hpl
 have HST := kI hst; have HPN := kI hpl
 have HM := kI hm; have HV := kI hv; have HP := kI hp
 obtain ⟨m1, n1, m2, n2, m3, n3, rfl, -, -⟩ := hm
 obtain ⟨av, cv, rfl, -, -, -⟩ := hv.get
 obtain ⟨pa, pc, rfl, hpn⟩ := hp.shape
 have HLV := kI hlv
 clear hv hp hst hpl hst0 hlm hlv
 have bb0 := (Blk.new w #[.bool m.disc.neg, .slice m1 m.disc.num.length n1, .slice m2 m.disc.den.length n2, .slice m3 m.states.length n3] 28)
 have x0 : Ext w (w.alloc (.cells #[.bool m.disc.neg, .slice m1 m.disc.num.length n1, .slice m2 m.disc.den.length n2, .slice m3 m.states.length n3] 28)) := ((Ext.refl w).alloc _)
 have A0 := kI bb0; have X := kI x0
 clear x0 bb0
 go_enter Try.func3, Try.ntmps3
 have qA0 := A0.out.cell; have fA0 := A0.out.free; have lA0 := A0.out.lt
 go_wp2_with fail
 refine (long22_any _ _ _ m vals _ plan _ (HM.out.ext X.out) (HV.out.ext X.out) (HP.out.ext X.out)).mono ?_
 rintro e w1 ⟨⟨r, rfl, hr⟩, hx⟩
 clear qA0 fA0 lA0
 replace A0 := kI (A0.out.ext hx); replace X := kI (X.out.trans hx)
 have HR := kI hr
 clear hx hr
 cases r
 rotate_left
 ·go_wp2_with fail
  refine (awake22_any _).mono ?_
  rintro e w2 ⟨rfl, hx⟩
  replace A0 := kI (A0.out.ext hx); replace X := kI (X.out.trans hx)
  clear hx
  go_wp2_with fail
  go_ret
  exact ⟨rfl, X.out⟩
 obtain ⟨-, hln, h30, -⟩ := HR.out rfl
 clear HR
 have HL := kI hln; have H30 := kI h30
 clear hln h30
 go_wp2_with fail
 refine (awake22_any _).mono ?_
 rintro e w2 ⟨rfl, hx⟩
 replace A0 := kI (A0.out.ext hx); replace X := kI (X.out.trans hx)
 clear hx
 have qA0 := A0.out.cell; have fA0 := A0.out.free; have lA0 := A0.out.lt
 go_wp2_with fail
 refine (HST.out _ _ _ (HM.out.ext X.out) (HV.out.ext X.out) HL.out).mono ?_
 rintro e w3 ⟨⟨v, p, rfl, ov, op⟩, hx⟩
 clear qA0 fA0 lA0
 replace A0 := kI (A0.out.ext hx); replace X := kI (X.out.trans hx)
 obtain ⟨ga, gc, rfl⟩ := ov.shape
 obtain ⟨qa, qc, rfl⟩ := op.shape
 have GR := kI ov.rd; have QR := kI op.rdP
 clear ov op hx HST
 by_cases hc : c = 0
 rotate_left
 ·obtain ⟨rfl, rfl⟩ := HPL.out.1 hc
  have q3 : (c != 0) = true := bne_iff_ne.2 hc
  clear hc
  simp only [List.length_nil]
  go_wp2_with fail
  go_ret
  exact ⟨rfl, X.out⟩
 obtain ⟨p1, p2, p3, p4, p5, p6, p7, p8, p9⟩ := HPL.out.2 hc
 subst hc
 obtain ⟨la, hla⟩ : ∃ l, l = stgV m vals plan.length := ⟨_, rfl⟩
 have hoth := fun u c => opt_other (m := m) (v := vals) (p := plan) (u := u) (c := c)
 have HO := kI (fun u c h => hoth u c h p1 p2 p3 HLV.out)
 clear hoth p1 p2 HPL
 obtain ⟨gl, hgl⟩ : ∃ n, n = g.length := ⟨_, rfl⟩
 have hgat := GR.out
 rw [← hgl] at hgat p4 ⊢
 obtain ⟨b0, o0, a0, c0, e0, t00, t01, t02⟩ := hgat.at (i := 0) (by omega)
 obtain ⟨b1, o1, a1, c1, e1, t10, t11, t12⟩ := hgat.at (i := plan.length) (by omega)
 subst e0
 injection e1 with e1
 injection e1 with e1 e2 _
 subst e1; subst e2
 rw [p6] at t01 t02
 rw [p7, ← hla] at t11 t12
 rw [← hla] at p8 p9 HO
 rw [p8] at t11 t12
 have qr := QR.out
 rw [p5] at qr ⊢
 have QR := kI qr
 have Y := kI (Ext.refl w3)
 clear qr
 have T0 : Hid (b0 < w3.heap.size ∧ w3.cell? ⟨b0, o0 + 0, none⟩ = some (.slice a0 vals.length c0)) := kI ⟨t00, t01⟩
 have T1 : Hid (b0 < w3.heap.size ∧ w3.cell? ⟨b0, o0 + plan.length, none⟩ = some (.slice a1 m.states.length c1)) := kI ⟨t10, t11⟩
 have R0 := kI t02; have R1 := kI t12; have P8 := kI p8; have P9 := kI p9
 clear t00 t01 t02 t10 t11 t12 hgat GR p6 p7 p9 p8 hgl
 have hw : wrap64 ((plan.length : Int) + 1) = (gl : Int) := by unfold wrap64; omega
 have q1 : (0 : Int) ≤ (plan.length : Int) := by omega
 have q2 : (plan.length : Int) < (gl : Int) := by omega
 have m1' := T1.out.2; have l1' := T1.out.1
 have qA0 := A0.out.cell; have fA0 := A0.out.free; have lA0 := A0.out.lt
 go_wp2_with fail
 clear m1' l1' hw q1 q2
 refine (HPN.out _ _ _ _ q (HM.out.ext X.out) (HV.out.ext X.out) QR.out HL.out).mono ?_
 rintro e w4 ⟨⟨v, rfl, ov⟩, hx⟩
 rw [P9.out] at ov ⊢
 dsimp only at ov ⊢
 obtain ⟨ra, rc, rfl⟩ := ov.shape
 have rl := ov.rd
 rw [P8.out] at rl ⊢
 have RL := kI rl
 clear qA0 fA0 lA0
 replace A0 := kI (A0.out.ext hx); replace QR := kI (QR.out.ext hx); replace R0 := kI (R0.out.ext hx); replace R1 := kI (R1.out.ext hx); replace X := kI (X.out.trans hx)
 replace Y := kI (Y.out.trans hx)
 clear hx rl ov
 have q0 : (m.states.length : Int) = (m.states.length : Int) := rfl
 have qA0 := A0.out.cell; have fA0 := A0.out.free; have lA0 := A0.out.lt
 go_wp2_with fail
 refine (equalRats_any _ _ la la _ RL.out R1.out).mono ?_
 rintro e w5 ⟨rfl, hx⟩
 rw [decide_eq_true rfl]
 clear qA0 fA0 lA0
 replace A0 := kI (A0.out.ext hx); replace QR := kI (QR.out.ext hx); replace R0 := kI (R0.out.ext hx); replace R1 := kI (R1.out.ext hx); replace RL := kI (RL.out.ext hx); replace X := kI (X.out.trans hx)
 replace Y := kI (Y.out.trans hx)
 clear hx q0
 have m0' := (Y.out.cell (p := ⟨b0, o0 + 0, none⟩) T0.out.1).trans T0.out.2; have m0 := (Y.out.cell (p := ⟨b0, o0, none⟩) T0.out.1).trans T0.out.2; have l0 := Nat.lt_of_lt_of_le T0.out.1 Y.out.size
 have q1 : (0 : Int) < (gl : Int) := by omega
 have qA0 := A0.out.cell; have fA0 := A0.out.free; have lA0 := A0.out.lt
 go_wp2_with fail
 clear m0' m0 l0 q1
 refine (equalRats_any _ _ vals vals _ R0.out (HV.out.ext X.out)).mono ?_
 rintro e w6 ⟨rfl, hx⟩
 rw [decide_eq_true rfl]
 clear qA0 fA0 lA0
 replace A0 := kI (A0.out.ext hx); replace QR := kI (QR.out.ext hx); replace R0 := kI (R0.out.ext hx); replace R1 := kI (R1.out.ext hx); replace RL := kI (RL.out.ext hx); replace X := kI (X.out.trans hx)
 replace Y := kI (Y.out.trans hx)
 clear hx
 have qA0 := A0.out.cell; have fA0 := A0.out.free; have lA0 := A0.out.lt
 go_wp2_with fail
 refine (HPN.out _ _ _ _ plan (HM.out.ext X.out) (HV.out.ext X.out) (HP.out.ext X.out) HL.out).mono ?_
 rintro e w7 ⟨⟨v, rfl, ov⟩, hx⟩
 obtain ⟨pu, hpu⟩ : ∃ p, p = planS m vals plan := ⟨_, rfl⟩
 obtain ⟨u, c⟩ := pu
 have HOU := kI (HO.out u c hpu.symm)
 rw [← hpu] at ov ⊢
 dsimp only at ov ⊢
 obtain ⟨ua, uc, rfl⟩ := ov.shape
 have UL := kI ov.rd
 clear qA0 fA0 lA0
 replace A0 := kI (A0.out.ext hx); replace QR := kI (QR.out.ext hx); replace R0 := kI (R0.out.ext hx); replace R1 := kI (R1.out.ext hx); replace RL := kI (RL.out.ext hx); replace X := kI (X.out.trans hx)
 replace Y := kI (Y.out.trans hx)
 clear hx ov hpu HO HPN
 by_cases hc : c = 0
 rotate_left
 ·have q3 : (c != 0) = true := bne_iff_ne.2 hc
  rcases HOU.out.1 hc with rfl | rfl | rfl
  ·clear hc q3
   go_wp2_with fail
   go_ret
   exact ⟨rfl, X.out⟩
  ·clear hc q3
   go_wp2_with fail
   go_ret
   exact ⟨rfl, X.out⟩
  ·clear hc q3
   go_wp2_with fail
   go_ret
   exact ⟨rfl, X.out⟩
 obtain ⟨p1, p2⟩ := HOU.out.2 hc
 subst hc
 have ul := UL.out
 rw [p1] at ul ⊢
 have HCC := kI p2; have UL := kI ul
 clear ul p2 HOU
 go_wp2_with fail
 obtain ⟨wB, hwB⟩ : ∃ W, W = w7 := ⟨_, rfl⟩
 subst hwB
 go_loopw [15] (fun i wr => ∃ k : Nat, k ≤ m.states.length ∧ i = .int .i64 k ∧ Ext wB wr) (fun i _ => m.states.length - (intOf i).toNat)
 case atStart => exact ⟨0, Nat.zero_le _, rfl, Ext.refl _⟩
 case round =>
  obtain ⟨wk, hwk⟩ : ∃ W, W = wr := ⟨_, rfl⟩
  subst hwk
  obtain ⟨k, hk, rfl, hxk⟩ := hrel
  have XK := kI hxk
  clear hxk
  by_cases hlt : k < m.states.length
  rotate_left
  ·have q1 : ¬ ((k : Int) < (m.states.length : Int)) := by omega
   go_wp2_with fail
   go_ret
   exact ⟨rfl, X.out.trans XK.out⟩
  have q1 : (k : Int) < (m.states.length : Int) := by omega
  by_cases h0 : 0 < plan.length
  rotate_left
  ·have q2 : ¬ ((0 : Int) < (plan.length : Int)) := by omega
   go_wp2_with fail
   go_ret
   exact ⟨rfl, X.out.trans XK.out⟩
  have q2 : (0 : Int) < (plan.length : Int) := by omega
  have q3 : (0 : Int) ≤ (k : Int) := by omega
  obtain ⟨c1', c2', lp, ly⟩ := HCC.out h0 k hlt
  obtain ⟨_, _, e1, _, _, fa, hfa⟩ := (R1.out.ext XK.out).get
  injection e1 with e0 e4 e5
  subst e0; clear e4 e5
  obtain ⟨ba, oa, rfl, hba, m0, m1, m2, hra⟩ := hfa k (by rw [P8.out]; exact hlt)
  obtain ⟨_, _, e1, _, _, fb, hfb⟩ := (UL.out.ext XK.out).get
  injection e1 with e0 e4 e5
  subst e0; clear e4 e5
  obtain ⟨bb, ob, rfl, hbb, n0, n1, n2, hrb⟩ := hfb k (by rw [p1]; exact hlt)
  clear hfa hfb
  obtain ⟨p, hp⟩ : ∃ p, p = la.getD k zR := ⟨_, rfl⟩
  obtain ⟨y, hy⟩ : ∃ p, p = u.getD k zR := ⟨_, rfl⟩
  rw [← hp, ← hy] at c1' c2'
  rw [← hp] at lp m0 m1 m2 hra
  rw [← hy] at ly n0 n1 n2 hrb
  obtain ⟨ff, hff⟩ : ∃ f, f = fa k := ⟨_, rfl⟩
  rw [← hff] at m1 m2 hra
  obtain ⟨⟨a1, a2⟩, ⟨a3, a4⟩⟩ := ff
  obtain ⟨fg, hfg⟩ : ∃ f, f = fb k := ⟨_, rfl⟩
  rw [← hfg] at n1 n2 hrb
  obtain ⟨⟨b1, b2⟩, ⟨b3, b4⟩⟩ := fg
  dsimp only at m1 m2 hra n1 n2 hrb
  have hcmp := fun W v1 v2 (e1 : RdR W v1 p) (e2 : RdR W v2 y) => cmpR_any v1 v2 p y W e1 e2 lp ly
  obtain ⟨cc, hcc⟩ : ∃ t, t = cmpR p y := ⟨_, rfl⟩
  rw [← hcc] at hcmp c1' c2'
  obtain ⟨c, ec⟩ := cc
  dsimp only at hcmp c1' c2'
  subst c1'
  have HCM := kI hcmp; have HC := kI c2'
  have CA : Hid (ba < wk.heap.size ∧ wk.cell? ⟨ba, oa + k * 3, none⟩ = some (.bool p.neg) ∧ wk.cell? ⟨ba, oa + k * 3 + 1, none⟩ = some (.slice a1 p.num.length a2) ∧ wk.cell? ⟨ba, oa + k * 3 + 2, none⟩ = some (.slice a3 p.den.length a4) ∧ RdR wk (.agg #[.bool p.neg, .slice a1 p.num.length a2, .slice a3 p.den.length a4]) p) := kI ⟨hba, m0, m1, m2, hra⟩
  have CB : Hid (bb < wk.heap.size ∧ wk.cell? ⟨bb, ob + k * 3, none⟩ = some (.bool y.neg) ∧ wk.cell? ⟨bb, ob + k * 3 + 1, none⟩ = some (.slice b1 y.num.length b2) ∧ wk.cell? ⟨bb, ob + k * 3 + 2, none⟩ = some (.slice b3 y.den.length b4) ∧ RdR wk (.agg #[.bool y.neg, .slice b1 y.num.length b2, .slice b3 y.den.length b4]) y) := kI ⟨hbb, n0, n1, n2, hrb⟩
  have XX := X
  have X := kI (Ext.refl wk)
  clear c2' lp ly hba m0 m1 m2 hra hbb n0 n1 n2 hrb hp hy hff hfg hcmp hcc
  go_wp2_with fail
  refine wp_region_each_float 12 11 (opJ (some ⟨ba, oa, none⟩) (some ⟨bb, ob, none⟩) c1 uc m.states.length m.states.length k ba oa bb ob p y c 0) rfl (by kernel_rfl) (by kernel_rfl) (by kernel_rfl) (fun _ _ _ _ h x => opJ_ext h x) (fun _ _ d _ _ h => by cases d <;> exact h) ?_ ?_ ?_
  ·refine ⟨?_, ?_, ?_, ?_, ?_, ?_, ?_, ?_, ?_, ?_, ?_, ?_, trivial⟩
   ·intro a W hW hB hD K hK
    have b10 := hB 10 rfl
    simp only [Array.getD_eq_getD_getElem?, List.getElem?_toArray, List.getElem?_cons_succ, List.getElem?_cons_zero, Option.getD_some] at b10
    go_simp
    exact hK _ _ (Ext.refl _) rfl
   ·intro a W hW hB hD K hK
    have b15 := hB 15 rfl
    simp only [Array.getD_eq_getD_getElem?, List.getElem?_toArray, List.getElem?_cons_succ, List.getElem?_cons_zero, Option.getD_some] at b15
    go_simp
    exact hK _ _ (Ext.refl _) rfl
   ·intro a W hW hB hD K hK
    obtain ⟨v131, e131⟩ : ∃ x, a.tmps.getD 131 undef = x := ⟨_, rfl⟩
    have h131 := hD 0 _ 131 rfl rfl (by kernel_rfl)
    rw [e131] at h131
    simp only [Array.getD_eq_getD_getElem?] at e131
    obtain rfl := h131
    obtain ⟨v132, e132⟩ : ∃ x, a.tmps.getD 132 undef = x := ⟨_, rfl⟩
    have h132 := hD 1 _ 132 rfl rfl (by kernel_rfl)
    rw [e132] at h132
    simp only [Array.getD_eq_getD_getElem?] at e132
    obtain rfl := h132
    go_simp
    exact hK _ _ (Ext.refl _) rfl
   ·intro a W hW hB hD K hK
    obtain ⟨v133, e133⟩ : ∃ x, a.tmps.getD 133 undef = x := ⟨_, rfl⟩
    have h133 := hD 2 _ 133 rfl rfl (by kernel_rfl)
    rw [e133] at h133
    simp only [Array.getD_eq_getD_getElem?] at e133
    obtain rfl := h133
    have m0 := ((X.out.trans hW).cell (p := ⟨ba, oa + k * 3, none⟩) CA.out.1).trans CA.out.2.1
    have m1 := ((X.out.trans hW).cell (p := ⟨ba, oa + k * 3 + 1, none⟩) CA.out.1).trans CA.out.2.2.1
    have m2 := ((X.out.trans hW).cell (p := ⟨ba, oa + k * 3 + 2, none⟩) CA.out.1).trans CA.out.2.2.2.1
    have ml := Nat.lt_of_lt_of_le CA.out.1 (X.out.trans hW).size
    go_simp
    exact hK _ _ (Ext.refl _) ⟨_, _, _, _, rfl, CA.out.2.2.2.2.ext (X.out.trans hW)⟩
   ·intro a W hW hB hD K hK
    have b13 := hB 13 rfl
    simp only [Array.getD_eq_getD_getElem?, List.getElem?_toArray, List.getElem?_cons_succ, List.getElem?_cons_zero, Option.getD_some] at b13
    go_simp
    exact hK _ _ (Ext.refl _) rfl
   ·intro a W hW hB hD K hK
    have b15 := hB 15 rfl
    simp only [Array.getD_eq_getD_getElem?, List.getElem?_toArray, List.getElem?_cons_succ, List.getElem?_cons_zero, Option.getD_some] at b15
    go_simp
    exact hK _ _ (Ext.refl _) rfl
   ·intro a W hW hB hD K hK
    obtain ⟨v135, e135⟩ : ∃ x, a.tmps.getD 135 undef = x := ⟨_, rfl⟩
    have h135 := hD 4 _ 135 rfl rfl (by kernel_rfl)
    rw [e135] at h135
    simp only [Array.getD_eq_getD_getElem?] at e135
    obtain rfl := h135
    obtain ⟨v136, e136⟩ : ∃ x, a.tmps.getD 136 undef = x := ⟨_, rfl⟩
    have h136 := hD 5 _ 136 rfl rfl (by kernel_rfl)
    rw [e136] at h136
    simp only [Array.getD_eq_getD_getElem?] at e136
    obtain rfl := h136
    go_simp
    exact hK _ _ (Ext.refl _) rfl
   ·intro a W hW hB hD K hK
    obtain ⟨v137, e137⟩ : ∃ x, a.tmps.getD 137 undef = x := ⟨_, rfl⟩
    have h137 := hD 6 _ 137 rfl rfl (by kernel_rfl)
    rw [e137] at h137
    simp only [Array.getD_eq_getD_getElem?] at e137
    obtain rfl := h137
    have m0 := ((X.out.trans hW).cell (p := ⟨bb, ob + k * 3, none⟩) CB.out.1).trans CB.out.2.1
    have m1 := ((X.out.trans hW).cell (p := ⟨bb, ob + k * 3 + 1, none⟩) CB.out.1).trans CB.out.2.2.1
    have m2 := ((X.out.trans hW).cell (p := ⟨bb, ob + k * 3 + 2, none⟩) CB.out.1).trans CB.out.2.2.2.1
    have ml := Nat.lt_of_lt_of_le CB.out.1 (X.out.trans hW).size
    go_simp
    exact hK _ _ (Ext.refl _) ⟨_, _, _, _, rfl, CB.out.2.2.2.2.ext (X.out.trans hW)⟩
   ·intro a W hW hB hD K hK
    obtain ⟨v134, e134⟩ : ∃ x, a.tmps.getD 134 undef = x := ⟨_, rfl⟩
    have h134 := hD 3 _ 134 rfl rfl (by kernel_rfl)
    rw [e134] at h134
    simp only [Array.getD_eq_getD_getElem?] at e134
    obtain ⟨d1, d2, d3, d4, rfl, dh⟩ := h134
    obtain ⟨v138, e138⟩ : ∃ x, a.tmps.getD 138 undef = x := ⟨_, rfl⟩
    have h138 := hD 7 _ 138 rfl rfl (by kernel_rfl)
    rw [e138] at h138
    simp only [Array.getD_eq_getD_getElem?] at e138
    obtain ⟨e1, e2, e3, e4, rfl, eh⟩ := h138
    go_simp
    refine (HCM.out _ _ _ dh eh).mono ?_
    rintro e w9 ⟨rfl, hx⟩
    exact hK _ _ hx rfl
   ·intro a W hW hB hD K hK
    obtain ⟨v139, e139⟩ : ∃ x, a.tmps.getD 139 undef = x := ⟨_, rfl⟩
    have h139 := hD 8 _ 139 rfl rfl (by kernel_rfl)
    rw [e139] at h139
    simp only [Array.getD_eq_getD_getElem?] at e139
    obtain rfl := h139
    go_simp
    exact hK _ _ (Ext.refl _) rfl
   ·intro a W hW hB hD K hK
    obtain ⟨v130, e130⟩ : ∃ x, a.tmps.getD 130 undef = x := ⟨_, rfl⟩
    have h130 := hD 9 _ 130 rfl rfl (by kernel_rfl)
    rw [e130] at h130
    simp only [Array.getD_eq_getD_getElem?] at e130
    obtain rfl := h130
    go_simp
    exact hK _ _ (Ext.refl _) rfl
   ·intro a W hW hB hD K hK
    obtain ⟨v130, e130⟩ : ∃ x, a.tmps.getD 130 undef = x := ⟨_, rfl⟩
    have h130 := hD 9 _ 130 rfl rfl (by kernel_rfl)
    rw [e130] at h130
    simp only [Array.getD_eq_getD_getElem?] at e130
    obtain rfl := h130
    go_simp
    exact hK _ _ (Ext.refl _) rfl
  ·intro a W hW hB hD
   have h130 := hD 9 _ 130 rfl rfl (by kernel_rfl)
   obtain ⟨v130, e130⟩ : ∃ x, a.tmps.getD 130 undef = x := ⟨_, rfl⟩
   rw [e130] at h130
   obtain rfl := h130
   exact ⟨.int .i64 0, fun w9 => run_extract9 e130 rfl rfl w9, rfl⟩
  intro w5' hx
  simp only [Vals, List.take_succ_cons, List.take_zero, List.drop_succ_cons, List.drop_zero]
  rintro u0' - u1' - u2' - u3' - u4' - u5' - u6' - u7' - u8' - u9' - u10 h10 u11 h11
  obtain rfl : u10 = .int .i64 c := h10
  obtain rfl : u11 = .int .i64 0 := h11
  simp only [Act.put, List.setIfInBounds_toArray, List.set_cons_zero, List.set_cons_succ]
  have XK := kI (XK.out.trans hx)
  have q4 : ¬ (0 : Int) < c := Int.not_lt.2 HC.out
  have q5 : ¬ c > 0 := q4
  clear hx X HCM CA CB
  go_wp2_with fail
  go_roundw
  case rel => exact ⟨k + 1, hlt, by go_num, XK.out⟩
  case measure => simp [intOf]; omega
end Go.Proofs.Ytnkekhpdaofmhaa
namespace Go.Proofs.Ytnkekhpdaofmhaa
open Go.ChangeShapes Go.WideShapes Go.ChangeAt Go.RowKit
set_option maxRecDepth 100000 in
theorem optL_lifted (os : Os) (started : os.Started) (H : Type) (enc : TypeId × Value → H) :
  ReturnsInHanded {} Try.checked os 3 .any (Rows.iterateOptimalSpec.pre6 enc Try.prog Try.f3 Rows.iterateOptimalRow.domain false) (Rows.iterateOptimalSpec.post enc Try.prog Try.f3 false true false false) := by
 refine returnsInHanded_of_change (C := Try.checked) rowOwn started (by kernel_rfl) Try.func3
  (ChangeSpec.witness6 (enc := enc) (C := Try.checked) false ⟨#[], #[.agg #[.bool false, .slice none 0 0, .slice none 0 0, .slice none 0 0], .slice none 0 0, .slice none 0 0], []⟩ 8 (by kernel_rfl) (by kernel_rfl) (by kernel_rfl) (by kernel_rfl)) ?_
 intro W base args ds gs before hval0 hW hcnd _
 have hval : ∀ (j : Nat) t v, Try.f3.params[j]? = some t → args[j]? = some v → Value.okWide Try.prog W .any base t v := hval0
 have hW' := hW
 obtain ⟨p, q, hA0, hV, rfl, hfz, hnd⟩ := hW
 have hA : DataW.TrodAll enc Try.prog W 0 (fun _ => true) true Try.f3.params.toList args.toList ds p := hA0
 rw [Try.params3] at hA hval
 obtain ⟨v0, v1, v2, d0, d1, d2, p0, p1, p2, rfl, rfl, rfl, h0, h1, h2⟩ := trodAll_three hA
 obtain ⟨rfl, rfl⟩ := trodVars_none hV
 have lt0 : ∀ x ∈ p0, x.block < W.heap.size := by obtain ⟨m, hm⟩ := h0; exact DataW.trod_lt m _ _ _ hm
 have lt1 : ∀ x ∈ p1, x.block < W.heap.size := by obtain ⟨m, hm⟩ := h1; exact DataW.trod_lt m _ _ _ hm
 have lt2 : ∀ x ∈ p2, x.block < W.heap.size := by obtain ⟨m, hm⟩ := h2; exact DataW.trod_lt m _ _ _ hm
 obtain ⟨m0, hr0, hl0⟩ := open_mdp (hval 0 28 v0 rfl rfl) h0
 obtain ⟨l1, hr1, hl1⟩ := open_rats (hval 1 29 v1 rfl rfl) h1
 obtain ⟨g2, hr2⟩ := open_plan (hval 2 30 v2 rfl rfl) h2
 clear hA0 hval0
 refine (optL_any v0 v1 v2 m0 l1 g2 W hr0 hr1 hr2 hl0 hl1).mono fun e W' ⟨he, bel⟩ => ?_
 subst he
 exact ⟨_, rfl, _, _, _, [], _, [], hW', trodAll_mk1 (shut_bool Try.underlying4 _), trodAll_mk3 (Below.trod rowLaid (by kernel_rfl) (of_decide_eq_true (by kernel_rfl)) h0 bel lt0) (Below.trod rowLaid (by kernel_rfl) (of_decide_eq_true (by kernel_rfl)) h1 bel lt1) (Below.trod rowLaid (by kernel_rfl) (of_decide_eq_true (by kernel_rfl)) h2 bel lt2), rfl, bel.frame _, fun h => by cases h⟩
theorem optL_holds : Rows.IterateOptimalSaid :=
 OpenClaim.holds_of_wide 3 Try.f3 rfl rfl rfl rfl rfl rfl rfl ⟨rfl, rfl, rfl, rfl, rfl⟩ rfl rfl rfl rfl rfl (by kernel_rfl) Try.func3 (by kernel_rfl)
  (of_decide_eq_true (by kernel_rfl)) (by unfold Func.isWrapper; first | (rw [if_pos (by decide +kernel)]; kernel_rfl) | (rw [if_neg (by decide +kernel)]; exact ⟨rfl, rfl⟩))
  (fun os started H enc _ => optL_lifted os started H enc)
end Go.Proofs.Ytnkekhpdaofmhaa
