/- Part of the proof of imatL_holds: what the row needs of LawIMat. Conditions: as each theorem states. -/
import Derived.Test.YthkfkfbfblppeaaGreatSwRi7d
import Derived.Test.YthkfkfbfblppeaaGreatSwRi7g
import Derived.Test.YthkfkfbfblppeaaGreatSwInK
import Derived.Test.YthkfkfbfblppeaaGreatSwRowK
namespace Go.Proofs.YthkfkfbfblppeaaGreat
set_option linter.unusedSimpArgs false
set_option linter.unusedVariables false
open Go.RowKit
theorem OwS.ext {e : TypeId} {B : Nat} {w w' : World} {v : Value} {l : List (Nat × RR)} (h : OwS e B w v l) (x : Ext w w') : OwS e B w' v l := OwS.ext' h x
theorem weights_shr (g : List (List Int)) (x : List Int) : ∀ (i : Nat) (y : Nat × RR), (weightsS g x).1[i]? = some y → y.2.num.length ≤ 1000000 ∧ y.2.den.length ≤ 1000000 := by
  intro i y hi
  unfold weightsS at hi
  split at hi
  · rename_i h0
    split at hi
    · dsimp only at hi
      unfold repL at hi
      rw [List.getElem?_map] at hi
      obtain ⟨z, hz, rfl⟩ : ∃ z, (wtsL g (xsOf g x) g.length)[i]? = some z ∧ (z.1, rep z.2) = y := by
        cases h : (wtsL g (xsOf g x) g.length)[i]? with
        | none => rw [h] at hi; cases hi
        | some z => rw [h] at hi; exact ⟨z, rfl, by injection hi⟩
      have ok := gridE_ok h0
      have h4 := ok.le
      have hs : small z.2 := small_of_bd (wts_bd ok x g.length (Nat.le_refl _) z (mem_of_at hz)) (by omega)
      exact ⟨Nat.le_trans hs.1 (by decide), Nat.le_trans hs.2 (by decide)⟩
    · simp at hi
  · simp at hi
set_option maxRecDepth 100000 in
set_option maxHeartbeats 8000000 in
theorem imatL_any (gv xv : Value) (g : List (List Int)) (v : Int) (x : List Int) (w : World) (h : RdG w gv g) (hx : RdI .i64 w xv x) (hxb : ∀ i, i < x.length → -9223372036854775808 ≤ x.getD i 0 ∧ x.getD i 0 ≤ 9223372036854775807) :
    Calls Tryz.prog 3 #[gv, .int .i64 v, xv] w fun e w' => e = .returned (.bool true) ∧ Ext w w' := by
  have HG := Lib.hid h; have HXI := Lib.hid hx; have HXB := Lib.hid hxb; have X := Lib.hid (Ext.refl w)
  obtain ⟨a, cap, rfl, hgl⟩ := h.shape
  obtain ⟨ax, cx, rfl, hxc, hxm, _⟩ := hx.get
  have hxl : x.length ≤ 9223372036854775807 := by omega
  clear h hx hxb hxc hxm
  go_enter Tryz.func3, Tryz.ntmps3
  go_wp2_with fail
  refine (long7_any _ g _ HG.out).mono ?_
  rintro e w1 ⟨⟨r, rfl, hr⟩, hx⟩
  have HG := Lib.hid (HG.out.ext hx); have HXI := Lib.hid (HXI.out.ext hx); have X := Lib.hid (X.out.trans hx)
  clear hx
  cases r
  rotate_left
  · clear hr
    go_wp2_with fail
    refine (awake7_any _).mono ?_
    rintro e w90 ⟨rfl, hx⟩
    have X := Lib.hid (X.out.trans hx)
    clear hx
    go_wp2_with fail
    go_ret
    exact ⟨rfl, X.out⟩
  obtain ⟨hr1, hr2⟩ := hr rfl
  clear hr
  by_cases h5 : 20 < x.length
  · have qh5 : (20 : Int) < (x.length : Int) := by omega
    go_wp2_with fail
    refine (awake7_any _).mono ?_
    rintro e w90 ⟨rfl, hx⟩
    have X := Lib.hid (X.out.trans hx)
    clear hx
    go_wp2_with fail
    go_ret
    exact ⟨rfl, X.out⟩
  have qh5 : ¬ (20 : Int) < (x.length : Int) := by omega
  have HL := Lib.hid hr2
  clear hr2
  have cVe := fun W gv (h : RdG W gv g) => vertices7_any gv g W h
  have rVe := fun W gv (h : RdG W gv g) => refVertices7_any gv g W h
  have cVx := fun W gv xv (h : RdG W gv g) (k : RdI .i64 W xv x) => vertex7_any gv xv g x W h k
  have rVx := fun W gv xv (h : RdG W gv g) (k : RdI .i64 W xv x) => refVertex7_any gv xv g x W h k
  have cPl := fun W gv (h : RdG W gv g) => place7_any gv g v W h
  have rPl := fun W gv (h : RdG W gv g) => refPlaceV7_any gv g v W h
  have cPt := fun W gv (h : RdG W gv g) => point7_any gv g v W h
  have rPt := fun W gv (h : RdG W gv g) => refPoint7_any gv g v W h
  have cWt := fun W gv xv (h : RdG W gv g) (k : RdI .i64 W xv x) => weights7_any gv xv g x W h k HXB.out
  have rWt := fun W gv xv (h : RdG W gv g) (k : RdI .i64 W xv x) => refWeights7_any gv xv g x W h k
  have cCk := fun W gv (h : RdG W gv g) => check7_any gv g W h
  have rCk := fun W gv (h : RdG W gv g) => refCheck7_any gv g W h
  have hsh := weights_shr g x
  obtain ⟨Q1, hQ⟩ : ∃ q, q = vertsS g := ⟨_, rfl⟩
  rw [← hQ] at cVe rVe; clear hQ
  obtain ⟨Q2, hQ⟩ : ∃ q, q = vertexS g x := ⟨_, rfl⟩
  rw [← hQ] at cVx rVx; clear hQ
  obtain ⟨Q3, hQ⟩ : ∃ q, q = placeS g v := ⟨_, rfl⟩
  rw [← hQ] at cPl rPl; clear hQ
  obtain ⟨Q4, hQ⟩ : ∃ q, q = pointS g v := ⟨_, rfl⟩
  rw [← hQ] at cPt rPt; clear hQ
  obtain ⟨Q5, hQ⟩ : ∃ q, q = weightsS g x := ⟨_, rfl⟩
  rw [← hQ] at cWt rWt hsh; clear hQ
  obtain ⟨eC, hQ⟩ : ∃ q, q = gridE g := ⟨_, rfl⟩
  rw [← hQ] at cCk rCk; clear hQ
  obtain ⟨n1, e1⟩ := Q1
  obtain ⟨n2, e2⟩ := Q2
  obtain ⟨lp, e3⟩ := Q3
  obtain ⟨lt, e4⟩ := Q4
  obtain ⟨lw, e5⟩ := Q5
  unfold ResZ at cPl rPl cPt rPt
  unfold ResW at cWt rWt
  dsimp only at cVe rVe cVx rVx cPl rPl cPt rPt cWt rWt hsh
  have CVE := Lib.hid cVe; have RVE := Lib.hid rVe; have CVX := Lib.hid cVx; have RVX := Lib.hid rVx; have CPL := Lib.hid cPl; have RPL := Lib.hid rPl; have CPT := Lib.hid cPt; have RPT := Lib.hid rPt; have CWT := Lib.hid cWt; have RWT := Lib.hid rWt; have CCK := Lib.hid cCk; have RCK := Lib.hid rCk; have SH := Lib.hid hsh
  clear cVe rVe cVx rVx cPl rPl cPt rPt cWt rWt cCk rCk hsh
  go_wp2_with fail
  refine (copyRows_any _ g _ HG.out (by omega) (fun i hi => Nat.le_trans (HL.out i hi) (by decide))).mono ?_
  rintro e w2 ⟨⟨v1, rfl, ho⟩, hx⟩
  have HG := Lib.hid (HG.out.ext hx); have HXI := Lib.hid (HXI.out.ext hx); have X := Lib.hid (X.out.trans hx)
  have IN := Lib.hid (OwG.rdG ho)
  obtain ⟨ia, ic, rfl, _⟩ := IN.out.shape
  clear ho hx
  go_wp2_with fail
  refine (copyInts_any _ x _ HXI.out (by omega)).mono ?_
  rintro e w3 ⟨v2, rfl, ho, hx⟩
  have HG := Lib.hid (HG.out.ext hx); have HXI := Lib.hid (HXI.out.ext hx); have IN := Lib.hid (IN.out.ext hx); have X := Lib.hid (X.out.trans hx)
  have LI := Lib.hid (OwI.rdI ho)
  obtain ⟨la, lc, rfl⟩ := OwI.shape ho
  clear ho hx qh5
  go_wp2_with fail
  refine (RVE.out _ _ HG.out).mono ?_
  rintro e w4 ⟨rfl, hx⟩
  have HG := Lib.hid (HG.out.ext hx); have HXI := Lib.hid (HXI.out.ext hx); have IN := Lib.hid (IN.out.ext hx); have LI := Lib.hid (LI.out.ext hx); have X := Lib.hid (X.out.trans hx)
  clear hx RVE
  go_wp2_with fail
  refine (RVX.out _ _ _ HG.out HXI.out).mono ?_
  rintro e w5 ⟨rfl, hx⟩
  have HG := Lib.hid (HG.out.ext hx); have HXI := Lib.hid (HXI.out.ext hx); have IN := Lib.hid (IN.out.ext hx); have LI := Lib.hid (LI.out.ext hx); have X := Lib.hid (X.out.trans hx)
  clear hx RVX
  go_wp2_with fail
  refine (RPL.out _ _ HG.out).mono ?_
  rintro e w6 ⟨⟨v3, rfl, nn⟩, hx⟩
  have HG := Lib.hid (HG.out.ext hx); have HXI := Lib.hid (HXI.out.ext hx); have IN := Lib.hid (IN.out.ext hx); have LI := Lib.hid (LI.out.ext hx); have X := Lib.hid (X.out.trans hx)
  obtain ⟨pa, rfl⟩ := nn.shape
  have NP := Lib.hid nn.rd
  clear nn hx RPL
  go_wp2_with fail
  refine (RPT.out _ _ HG.out).mono ?_
  rintro e w7 ⟨⟨v4, rfl, nn⟩, hx⟩
  have HG := Lib.hid (HG.out.ext hx); have HXI := Lib.hid (HXI.out.ext hx); have IN := Lib.hid (IN.out.ext hx); have LI := Lib.hid (LI.out.ext hx); have NP := Lib.hid (NP.out.ext hx); have X := Lib.hid (X.out.trans hx)
  obtain ⟨ta, rfl⟩ := nn.shape
  have NT := Lib.hid nn.rd
  clear nn hx RPT
  go_wp2_with fail
  refine (RWT.out _ _ _ HG.out HXI.out).mono ?_
  rintro e w8 ⟨⟨v5, B5, rfl, hB, nn⟩, hx⟩
  have HG := Lib.hid (HG.out.ext hx); have HXI := Lib.hid (HXI.out.ext hx); have IN := Lib.hid (IN.out.ext hx); have LI := Lib.hid (LI.out.ext hx); have NP := Lib.hid (NP.out.ext hx); have NT := Lib.hid (NT.out.ext hx); have X := Lib.hid (X.out.trans hx)
  obtain ⟨wa, wc0, rfl⟩ := nn.shape
  have NW := Lib.hid nn.rdWs
  clear nn hx RWT hB B5
  go_wp2_with fail
  obtain ⟨wc, hwc⟩ : ∃ W, W = w8 := ⟨_, rfl⟩
  rw [← hwc] at HG HXI IN LI NP NT NW X ⊢
  clear hwc
  go_loopw [19] (fun i wr => ∃ k : Nat, k ≤ 2 ∧ i = .int .i64 k ∧ Ext wc wr) (fun i _ => 2 - (intOf i).toNat)
  case atStart => exact ⟨0, by omega, rfl, Ext.refl wc⟩
  case round =>
    obtain ⟨wk, hwk⟩ : ∃ W, W = wr := ⟨_, rfl⟩
    subst hwk
    obtain ⟨k, hk, rfl, hx⟩ := hrel
    have HG := Lib.hid (HG.out.ext hx); have HXI := Lib.hid (HXI.out.ext hx); have IN := Lib.hid (IN.out.ext hx); have LI := Lib.hid (LI.out.ext hx); have NP := Lib.hid (NP.out.ext hx); have NT := Lib.hid (NT.out.ext hx); have NW := Lib.hid (NW.out.ext hx)
    have XC := Lib.hid hx; have X0 := X; have X := Lib.hid (Ext.refl wk)
    clear hx
    by_cases hlt : k < 2
    · have q1 : (k : Int) < (2 : Int) := by omega
      go_wp2_with fail
      refine (CVE.out _ _ IN.out).mono ?_
      rintro e w9 ⟨rfl, hx⟩
      have HG := Lib.hid (HG.out.ext hx); have HXI := Lib.hid (HXI.out.ext hx); have IN := Lib.hid (IN.out.ext hx); have LI := Lib.hid (LI.out.ext hx); have NP := Lib.hid (NP.out.ext hx); have NT := Lib.hid (NT.out.ext hx); have NW := Lib.hid (NW.out.ext hx); have X := Lib.hid (X.out.trans hx)
      clear hx
      go_wp2_with fail
      refine (CVX.out _ _ _ IN.out LI.out).mono ?_
      rintro e w10 ⟨rfl, hx⟩
      have HG := Lib.hid (HG.out.ext hx); have HXI := Lib.hid (HXI.out.ext hx); have IN := Lib.hid (IN.out.ext hx); have LI := Lib.hid (LI.out.ext hx); have NP := Lib.hid (NP.out.ext hx); have NT := Lib.hid (NT.out.ext hx); have NW := Lib.hid (NW.out.ext hx); have X := Lib.hid (X.out.trans hx)
      clear hx
      have XP := Lib.hid X.out
      go_wp2_with fail
      refine (CPL.out _ _ IN.out).mono ?_
      rintro e w11 ⟨⟨v6, rfl, nn⟩, hx⟩
      have HG := Lib.hid (HG.out.ext hx); have HXI := Lib.hid (HXI.out.ext hx); have IN := Lib.hid (IN.out.ext hx); have LI := Lib.hid (LI.out.ext hx); have NP := Lib.hid (NP.out.ext hx); have NT := Lib.hid (NT.out.ext hx); have NW := Lib.hid (NW.out.ext hx); have X := Lib.hid (X.out.trans hx)
      obtain ⟨pb, rfl⟩ := nn.shape
      have ZP := Lib.hid (nn.from XP.out)
      clear nn hx XP
      have OP := Lib.hid (fun g hg => (ZP.out.own g hg).2)
      obtain ⟨wb, hwb⟩ : ∃ W, W = w11 := ⟨_, rfl⟩
      have XB := Lib.hid (show wk.heap.size ≤ wb.heap.size from by rw [hwb]; exact X.out.size)
      rw [← hwb] at OP
      have HWB := Lib.hid hwb
      clear hwb
      go_wp2_with fail
      refine (CPT.out _ _ IN.out).mono ?_
      rintro e w12 ⟨⟨v7, rfl, nn⟩, hx⟩
      have HG := Lib.hid (HG.out.ext hx); have HXI := Lib.hid (HXI.out.ext hx); have IN := Lib.hid (IN.out.ext hx); have LI := Lib.hid (LI.out.ext hx); have NP := Lib.hid (NP.out.ext hx); have NT := Lib.hid (NT.out.ext hx); have NW := Lib.hid (NW.out.ext hx); have ZP := Lib.hid (ZP.out.ext hx); have X := Lib.hid (X.out.trans hx)
      obtain ⟨tb, rfl⟩ := nn.shape
      rw [← HWB.out] at nn
      have ZT := Lib.hid nn
      clear nn hx HWB
      have XW := Lib.hid X.out.size
      go_wp2_with fail
      refine (CWT.out _ _ _ IN.out LI.out).mono ?_
      rintro e w13 ⟨⟨v8, B8, rfl, hB, nn⟩, hx⟩
      have HG := Lib.hid (HG.out.ext hx); have HXI := Lib.hid (HXI.out.ext hx); have IN := Lib.hid (IN.out.ext hx); have LI := Lib.hid (LI.out.ext hx); have NP := Lib.hid (NP.out.ext hx); have NT := Lib.hid (NT.out.ext hx); have NW := Lib.hid (NW.out.ext hx); have ZP := Lib.hid (ZP.out.ext hx); have ZT := Lib.hid (ZT.out.ext hx); have X := Lib.hid (X.out.trans hx)
      obtain ⟨wa2, wc2, rfl⟩ := nn.shape
      have OW := Lib.hid nn
      have HB8 := Lib.hid (Nat.le_trans XW.out hB)
      clear nn hx hB XW
      have qn1 : (n1 != n1) = false := by simp
      go_wp2_with fail
      refine (CCK.out _ _ IN.out).mono ?_
      rintro e w14 ⟨rfl, hx⟩
      have HG := Lib.hid (HG.out.ext hx); have HXI := Lib.hid (HXI.out.ext hx); have IN := Lib.hid (IN.out.ext hx); have LI := Lib.hid (LI.out.ext hx); have NP := Lib.hid (NP.out.ext hx); have NT := Lib.hid (NT.out.ext hx); have NW := Lib.hid (NW.out.ext hx); have ZP := Lib.hid (ZP.out.ext hx); have ZT := Lib.hid (ZT.out.ext hx); have OW := Lib.hid (OW.out.ext hx); have X := Lib.hid (X.out.trans hx)
      clear hx
      go_wp2_with fail
      refine (RCK.out _ _ HG.out).mono ?_
      rintro e w15 ⟨rfl, hx⟩
      have HG := Lib.hid (HG.out.ext hx); have HXI := Lib.hid (HXI.out.ext hx); have IN := Lib.hid (IN.out.ext hx); have LI := Lib.hid (LI.out.ext hx); have NP := Lib.hid (NP.out.ext hx); have NT := Lib.hid (NT.out.ext hx); have NW := Lib.hid (NW.out.ext hx); have ZP := Lib.hid (ZP.out.ext hx); have ZT := Lib.hid (ZT.out.ext hx); have OW := Lib.hid (OW.out.ext hx); have X := Lib.hid (X.out.trans hx)
      clear hx
      go_wp2_with fail
      refine (equalInts_any _ _ lp lp _ ZP.out.rd NP.out).mono ?_
      rintro e w16 ⟨rfl, hx⟩
      have HG := Lib.hid (HG.out.ext hx); have HXI := Lib.hid (HXI.out.ext hx); have IN := Lib.hid (IN.out.ext hx); have LI := Lib.hid (LI.out.ext hx); have NP := Lib.hid (NP.out.ext hx); have NT := Lib.hid (NT.out.ext hx); have NW := Lib.hid (NW.out.ext hx); have ZP := Lib.hid (ZP.out.ext hx); have ZT := Lib.hid (ZT.out.ext hx); have OW := Lib.hid (OW.out.ext hx); have X := Lib.hid (X.out.trans hx)
      clear hx
      rw [decide_eq_true rfl]
      go_wp2_with fail
      refine (equalInts_any _ _ lt lt _ ZT.out.rd NT.out).mono ?_
      rintro e w17 ⟨rfl, hx⟩
      have HG := Lib.hid (HG.out.ext hx); have HXI := Lib.hid (HXI.out.ext hx); have IN := Lib.hid (IN.out.ext hx); have LI := Lib.hid (LI.out.ext hx); have NP := Lib.hid (NP.out.ext hx); have NT := Lib.hid (NT.out.ext hx); have NW := Lib.hid (NW.out.ext hx); have ZP := Lib.hid (ZP.out.ext hx); have ZT := Lib.hid (ZT.out.ext hx); have OW := Lib.hid (OW.out.ext hx); have X := Lib.hid (X.out.trans hx)
      clear hx
      rw [decide_eq_true rfl]
      go_wp2_with fail
      refine (equalWts_any _ _ lw lw _ OW.out.rdWs NW.out).mono ?_
      rintro e w18 ⟨rfl, hx⟩
      have HG := Lib.hid (HG.out.ext hx); have HXI := Lib.hid (HXI.out.ext hx); have IN := Lib.hid (IN.out.ext hx); have LI := Lib.hid (LI.out.ext hx); have NP := Lib.hid (NP.out.ext hx); have NT := Lib.hid (NT.out.ext hx); have NW := Lib.hid (NW.out.ext hx); have ZP := Lib.hid (ZP.out.ext hx); have ZT := Lib.hid (ZT.out.ext hx); have OW := Lib.hid (OW.out.ext hx); have X := Lib.hid (X.out.trans hx)
      clear hx
      rw [decide_eq_true rfl]
      go_wp2_with fail
      refine (equalRowsT_any _ _ g _ IN.out HG.out).mono ?_
      rintro e w19 ⟨rfl, hx⟩
      have HG := Lib.hid (HG.out.ext hx); have HXI := Lib.hid (HXI.out.ext hx); have IN := Lib.hid (IN.out.ext hx); have LI := Lib.hid (LI.out.ext hx); have NP := Lib.hid (NP.out.ext hx); have NT := Lib.hid (NT.out.ext hx); have NW := Lib.hid (NW.out.ext hx); have ZP := Lib.hid (ZP.out.ext hx); have ZT := Lib.hid (ZT.out.ext hx); have OW := Lib.hid (OW.out.ext hx); have X := Lib.hid (X.out.trans hx)
      clear hx
      go_wp2_with fail
      refine (equalInts_any _ _ x x _ LI.out HXI.out).mono ?_
      rintro e w20 ⟨rfl, hx⟩
      have HG := Lib.hid (HG.out.ext hx); have HXI := Lib.hid (HXI.out.ext hx); have IN := Lib.hid (IN.out.ext hx); have LI := Lib.hid (LI.out.ext hx); have NP := Lib.hid (NP.out.ext hx); have NT := Lib.hid (NT.out.ext hx); have NW := Lib.hid (NW.out.ext hx); have ZP := Lib.hid (ZP.out.ext hx); have ZT := Lib.hid (ZT.out.ext hx); have OW := Lib.hid (OW.out.ext hx); have X := Lib.hid (X.out.trans hx)
      clear hx
      rw [decide_eq_true rfl]
      go_wp2_with fail
      refine (overZ_any _ lp wk _ ZP.out).mono ?_
      rintro e w21 ⟨rfl, hkp, hbl⟩
      have OW := Lib.hid (OwS.keeps OW.out hkp (by decide) (by decide))
      have ZT := Lib.hid (NewZ.blk ZT.out (fun g hg => hbl g (ZT.out.own g hg).2 (fun e => by have h1 := OP.out g e; have h2 := (ZT.out.own g hg).1; omega)))
      have X := Lib.hid (Below.trans X.out (hkp.below X.out.size))
      clear hkp hbl
      go_wp2_with fail
      refine (overZ_any _ lt wb _ ZT.out).mono ?_
      rintro e w22 ⟨rfl, hkp, hbl⟩
      have OW := Lib.hid (OwS.keeps OW.out hkp (by decide) (by decide))
      have X := Lib.hid (Below.trans X.out ((hkp.mono XB.out).below X.out.size))
      clear hkp hbl
      go_wp2_with fail
      refine (overWeights_any _ lw _ _ OW.out SH.out).mono ?_
      rintro e w23 ⟨rfl, hg⟩
      have X := Lib.hid (GrU.ext X.out hg HB8.out)
      clear hg
      go_wp2_with fail
      go_roundw
      case rel => exact ⟨k + 1, by omega, by go_num, XC.out.trans X.out⟩
      case measure => simp [intOf]; omega
    · obtain rfl : k = 2 := by omega
      have X := Lib.hid (X0.out.trans XC.out)
      clear X0
      go_wp2_with fail
      refine (awake7_any _).mono ?_
      rintro e w90 ⟨rfl, hx⟩
      have X := Lib.hid (X.out.trans hx)
      clear hx
      go_wp2_with fail
      go_ret
      exact ⟨rfl, X.out⟩
end Go.Proofs.YthkfkfbfblppeaaGreat
