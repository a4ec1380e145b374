/- Walks of the reference of layer 6: den, fit, Wrong, Product, Sum (written by mkref6.py). Conditions: as each states. -/
import Derived.Test.YthkfkfbfblppeaaGreatRatRb
import Derived.Test.YthkfkfbfblppeaaGreatGK
namespace Go.Proofs.YthkfkfbfblppeaaGreat
set_option linter.unusedSimpArgs false
set_option linter.unusedVariables false
open Go.RowKit

/-- Lengths that the reference bears. -/
def lenR (r : RR) (k : Nat) : Prop := r.num.length ≤ k ∧ r.den.length ≤ k
theorem nv_repn (q : Rat) : nv (rep q).num = q.num.natAbs := nv_lim _
theorem nv_repd (q : Rat) : nv (dl (rep q).den) = q.den := by rw [nv_dl, den_rep]
theorem neg_rep0 (q : Rat) : (rep q).neg = decide (q.num < 0) := rfl
theorem valid_eq {r : RR} (hl : LimR r) (h : chkR r = 0) : r = rep (qv r) := (valid_rep hl h).2.2.symm
theorem lenR_of_bd {q : Rat} {k : Nat} (h : bd q k) : lenR (rep q) k := by
  refine ⟨lim_len_le.2 h.1, ?_⟩
  unfold rep
  dsimp only
  split
  · simp
  · exact lim_len_le.2 h.2
theorem bd_of_lenR {q : Rat} {k : Nat} (h : lenR (rep q) k) (hk : 1 ≤ k) : bd q k := by
  refine ⟨?_, ?_⟩
  · rw [← nv_repn]; exact lt_of_len (limR_rep q).1 h.1
  · rw [← nv_repd]; exact lt_of_len (lim_dl (limR_rep q).2) (len_dl h.2 hk)
theorem lenR_mono {r : RR} {k m : Nat} (h : lenR r k) (hk : k ≤ m) : lenR r m := ⟨Nat.le_trans h.1 hk, Nat.le_trans h.2 hk⟩

theorem den_any (v : Value) (r : RR) (w : World) (h : RdR w v r) :
    Calls Tryz.prog 139 #[v] w fun e w' => (∃ v', e = .returned v' ∧ RdI .u32 w' v' (dl r.den)) ∧ Ext w w' := by
  obtain ⟨a1, c1, a2, c2, rfl, hn, hd⟩ := h.parts
  obtain ⟨b, l1, l2⟩ := r
  dsimp only at hn hd ⊢
  clear h
  have HD := Lib.hid hd
  have X0 := Lib.hid ((Ext.refl w).alloc (.cells #[.bool b, .slice a1 l1.length c1, .slice a2 l2.length c2] 62))
  clear hn hd
  by_cases hz : l2 = []
  · have q1 : ((l2.length : Int) == 0) = true := by rw [hz]; rfl
    have e : dl l2 = [1] := if_pos hz
    rw [e]
    clear hz e
    go_enter Tryz.func139, Tryz.ntmps139
    go_wp2_with fail
    refine (one_any _).mono ?_
    rintro e w1 ⟨⟨v, rfl, n1⟩, hx1⟩
    obtain ⟨a3, c3, rfl⟩ := n1.shape
    have N1 := Lib.hid n1.rd; have X1 := Lib.hid (X0.out.trans hx1)
    clear n1 hx1
    go_wp2_with fail
    go_ret
    exact ⟨⟨_, rfl, N1.out⟩, X1.out⟩
  · have q1 : ((l2.length : Int) == 0) = false := by
      have : l2.length ≠ 0 := fun e => hz (List.length_eq_zero_iff.1 e)
      simpa using this
    have e : dl l2 = l2 := if_neg hz
    rw [e]
    clear hz e
    go_enter Tryz.func139, Tryz.ntmps139
    go_wp2_with fail
    go_ret
    exact ⟨⟨_, rfl, HD.out.ext X0.out⟩, X0.out⟩

set_option maxHeartbeats 1000000 in
theorem refFit6_any (v : Value) (q : Rat) (w0 w : World) (h : NewR w0 w v (rep q)) (h0 : Ext w0 w) :
    Calls Tryz.prog 165 #[v] w fun e w' => ResR w0 w' e (fitR q) ∧ Ext w w' := by
  obtain ⟨a1, c1, a2, c2, rfl⟩ := h.shape
  have hs : fitR q = if (rep q).num.length ≤ 128 ∧ (rep q).den.length ≤ 128 then (rep q, 0) else (zR, 4) := rfl
  obtain ⟨r, hr⟩ : ∃ r, r = rep q := ⟨_, rfl⟩
  rw [← hr] at h hs ⊢
  have HS := Lib.hid hs; have H := Lib.hid h; have H0 := Lib.hid h0
  clear hs hr h h0
  have bb0 := ((Blk.new w #[.bool r.neg, .slice a1 r.num.length c1, .slice a2 r.den.length c2] 62).alloc (.cells #[.bool false, .slice none 0 0, .slice none 0 0] 62))
  have bb1 := (Blk.new (w.alloc (.cells #[.bool r.neg, .slice a1 r.num.length c1, .slice a2 r.den.length c2] 62)) #[.bool false, .slice none 0 0, .slice none 0 0] 62)
  rw [World.size_alloc] at bb1
  have x0 : Ext w ((w.alloc (.cells #[.bool r.neg, .slice a1 r.num.length c1, .slice a2 r.den.length c2] 62)).alloc (.cells #[.bool false, .slice none 0 0, .slice none 0 0] 62)) := (((Ext.refl w).alloc _).alloc _)
  have A0 := Lib.hid bb0; have A1 := Lib.hid bb1; have X := Lib.hid x0
  clear x0 bb0 bb1
  by_cases h1 : 128 < r.num.length
  · have q1 : (128 : Int) < (r.num.length : Int) := by omega
    have E := Lib.hid (HS.out.trans (if_neg (by omega)))
    clear h1
    go_enter Tryz.func165, Tryz.ntmps165
    go_wp2_with fail
    exact bodyPost_ret (v := .tuple #[.agg #[.bool false, .slice none 0 0, .slice none 0 0], .int .i64 4]) (by simp only [results, Tryz.results165]; go_simp) rfl ⟨ResR.mk (NewR.zero _ _) E.out, by (repeat (first | (with_reducible exact Ext.refl _) | (with_reducible assumption) | (with_reducible refine Ext.alloc ?_ _) | ((with_reducible refine Ext.setp ?_ ?_); focus (dsimp only; omega)) | (with_reducible refine Ext.drew ?_) | (with_reducible refine Ext.drewN ?_ _) | (with_reducible refine Ext.trans ?_ (by assumption))))⟩
  · by_cases h2 : 128 < r.den.length
    · have q1 : ¬ (128 : Int) < (r.num.length : Int) := by omega
      have q2 : (128 : Int) < (r.den.length : Int) := by omega
      have E := Lib.hid (HS.out.trans (if_neg (by omega)))
      clear h1 h2
      go_enter Tryz.func165, Tryz.ntmps165
      go_wp2_with fail
      exact bodyPost_ret (v := .tuple #[.agg #[.bool false, .slice none 0 0, .slice none 0 0], .int .i64 4]) (by simp only [results, Tryz.results165]; go_simp) rfl ⟨ResR.mk (NewR.zero _ _) E.out, by (repeat (first | (with_reducible exact Ext.refl _) | (with_reducible assumption) | (with_reducible refine Ext.alloc ?_ _) | ((with_reducible refine Ext.setp ?_ ?_); focus (dsimp only; omega)) | (with_reducible refine Ext.drew ?_) | (with_reducible refine Ext.drewN ?_ _) | (with_reducible refine Ext.trans ?_ (by assumption))))⟩
    · have q1 : ¬ (128 : Int) < (r.num.length : Int) := by omega
      have q2 : ¬ (128 : Int) < (r.den.length : Int) := by omega
      have E := Lib.hid (HS.out.trans (if_pos (by omega)))
      clear h1 h2
      go_enter Tryz.func165, Tryz.ntmps165
      go_wp2_with fail
      refine bodyPost_ret (v := .tuple #[.agg #[.bool r.neg, .slice a1 r.num.length c1, .slice a2 r.den.length c2], .int .i64 0]) (by simp only [results, Tryz.results165]; go_simp) rfl ⟨ResR.mk (H.out.ext (((Ext.refl w).alloc _).alloc _)) E.out, ?_⟩
      have := X.out; (repeat (first | (with_reducible exact Ext.refl _) | (with_reducible assumption) | (with_reducible refine Ext.alloc ?_ _) | ((with_reducible refine Ext.setp ?_ ?_); focus (dsimp only; omega)) | (with_reducible refine Ext.drew ?_) | (with_reducible refine Ext.drewN ?_ _) | (with_reducible refine Ext.trans ?_ (by assumption))))

set_option maxHeartbeats 1000000 in
theorem refWrong6_any (va vb : Value) (ra rb : RR) (w : World) (ha : RdR w va ra) (hb : RdR w vb rb) (la : LimR ra) (lb : LimR rb) :
    Calls Tryz.prog 164 #[va, vb] w fun e w' => e = .returned (.int .i64 (chkR2 ra rb)) ∧ Ext w w' := by
  have hca := fun W (x : Ext w W) => refCheckR_any va ra W (ha.ext x) la
  have hcb := fun W (x : Ext w W) => refCheckR_any vb rb W (hb.ext x) lb
  obtain ⟨a1, a2, a3, a4, rfl⟩ := ha.shape
  obtain ⟨b1, b2, b3, b4, rfl⟩ := hb.shape
  have e2 : chkR2 ra rb = if chkR ra = 0 then chkR rb else chkR ra := rfl
  obtain ⟨ca, hca0⟩ : ∃ c, c = chkR ra := ⟨_, rfl⟩
  obtain ⟨cb, hcb0⟩ : ∃ c, c = chkR rb := ⟨_, rfl⟩
  rw [← hca0] at hca e2
  rw [← hcb0] at hcb e2
  have HCA := Lib.hid hca; have HCB := Lib.hid hcb; have E2 := Lib.hid e2
  clear hca hcb e2 hca0 hcb0 ha hb
  have bb0 := ((Blk.new w #[.bool ra.neg, .slice a1 ra.num.length a2, .slice a3 ra.den.length a4] 62).alloc (.cells #[.bool rb.neg, .slice b1 rb.num.length b2, .slice b3 rb.den.length b4] 62))
  have bb1 := (Blk.new (w.alloc (.cells #[.bool ra.neg, .slice a1 ra.num.length a2, .slice a3 ra.den.length a4] 62)) #[.bool rb.neg, .slice b1 rb.num.length b2, .slice b3 rb.den.length b4] 62)
  rw [World.size_alloc] at bb1
  have x0 : Ext w ((w.alloc (.cells #[.bool ra.neg, .slice a1 ra.num.length a2, .slice a3 ra.den.length a4] 62)).alloc (.cells #[.bool rb.neg, .slice b1 rb.num.length b2, .slice b3 rb.den.length b4] 62)) := (((Ext.refl w).alloc _).alloc _)
  have A0 := Lib.hid bb0; have A1 := Lib.hid bb1; have X := Lib.hid x0
  clear x0 bb0 bb1
  by_cases hc : ca = 0
  · subst hc
    go_enter Tryz.func164, Tryz.ntmps164
    go_wp2_with fail
    refine (HCA.out _ X.out).mono ?_
    rintro e w1 ⟨rfl, hx⟩
    have A0 := Lib.hid (A0.out.ext hx); have A1 := Lib.hid (A1.out.ext hx); have X := Lib.hid (X.out.trans hx)
    clear hx
    have qA1 := A1.out.cell; have fA1 := A1.out.free; have lA1 := A1.out.lt
    go_wp2_with fail
    refine (HCB.out _ X.out).mono ?_
    rintro e w2 ⟨rfl, hx⟩
    clear qA1 fA1 lA1
    have A0 := Lib.hid (A0.out.ext hx); have A1 := Lib.hid (A1.out.ext hx); have X := Lib.hid (X.out.trans hx)
    clear hx
    go_wp2_with fail
    go_ret
    exact ⟨by rw [E2.out]; rfl, X.out⟩
  · have q1 : (ca == 0) = false := by simpa using hc
    have HC := Lib.hid hc
    clear hc
    go_enter Tryz.func164, Tryz.ntmps164
    go_wp2_with fail
    refine (HCA.out _ X.out).mono ?_
    rintro e w1 ⟨rfl, hx⟩
    have A0 := Lib.hid (A0.out.ext hx); have A1 := Lib.hid (A1.out.ext hx); have X := Lib.hid (X.out.trans hx)
    clear hx
    go_wp2_with fail
    go_ret
    exact ⟨by rw [E2.out, if_neg HC.out]; rfl, X.out⟩

/-- The product of two numbers' limbs, by the reference. -/
theorem prod_at {w : World} {va vb : Value} {la lb : List Int} (ha : RdI .u32 w va la) (hb : RdI .u32 w vb lb) (hla : Lim la) (hlb : Lim lb) (sa : la.length ≤ 4000) (sb : lb.length ≤ 4000) :
    Calls Tryz.prog 138 #[va, vb] w fun e w' => (∃ v, e = .returned v ∧ NewV w w' v (lim (nv la * nv lb))) ∧ Ext w w' := product_any va vb la lb w ha hb hla hlb (by omega) (by omega)

theorem prod_rep (a b : Rat) : rep (mkRat (sg ((rep a).neg != (rep b).neg) (nv (rep a).num * nv (rep b).num)) (nv (dl (rep a).den) * nv (dl (rep b).den))) = rep (a * b) := by
  have h := vq_prod (vod (rep a)) (vod (rep b))
  have ea : vq (vod (rep a)) = a := by rw [vod_vof, vq_vof, qv_rep]
  have eb : vq (vod (rep b)) = b := by rw [vod_vof, vq_vof, qv_rep]
  rw [ea, eb] at h
  rw [← h]; rfl
theorem sum_rep (a b : Rat) : rep (vq (sumV (vod (rep a)) (vod (rep b)))) = rep (a + b) := by
  have d1 : (vod (rep a)).2.2 ≠ 0 := by show nv (dl (rep a).den) ≠ 0; rw [nv_repd]; exact a.den_nz
  have d2 : (vod (rep b)).2.2 ≠ 0 := by show nv (dl (rep b).den) ≠ 0; rw [nv_repd]; exact b.den_nz
  rw [vq_sum d1 d2]
  rw [vod_vof, vq_vof, qv_rep, vod_vof, vq_vof, qv_rep]


set_option maxHeartbeats 4000000 in
theorem refSum6_any (va vb : Value) (a b : Rat) (w : World) (ha : RdR w va (rep a)) (hb : RdR w vb (rep b)) (sa : lenR (rep a) 2000) (sb : lenR (rep b) 2000) :
    Calls Tryz.prog 131 #[va, vb] w fun e w' => (∃ v, e = .returned v ∧ NewR w w' v (rep (a + b))) ∧ Ext w w' := by
  obtain ⟨a1, a2, a3, a4, rfl, han, had⟩ := ha.parts
  obtain ⟨b1, b2, b3, b4, rfl, hbn, hbd⟩ := hb.parts
  have hda := fun W (x : Ext w W) => den_any _ (rep a) W (ha.ext x)
  have hdb := fun W (x : Ext w W) => den_any _ (rep b) W (hb.ext x)
  have za : nv (dl (rep a).den) ≠ 0 := by rw [nv_repd]; exact a.den_nz
  have zb : nv (dl (rep b).den) ≠ 0 := by rw [nv_repd]; exact b.den_nz
  have ga := limR_rep a; have gb := limR_rep b
  have ka : (dl (rep a).den).length ≤ 2000 := len_dl sa.2 (by omega)
  have kb : (dl (rep b).den).length ≤ 2000 := len_dl sb.2 (by omega)
  have kan := sa.1; have kbn := sb.1
  have gda := lim_dl ga.2; have gdb := lim_dl gb.2
  have gna := ga.1; have gnb := gb.1
  have hr := sum_rep a b
  unfold sumV vod at hr
  dsimp only at hr
  obtain ⟨P, hP⟩ : ∃ P, P = nv (rep a).num * nv (dl (rep b).den) := ⟨_, rfl⟩
  obtain ⟨Q, hQ⟩ : ∃ Q, Q = nv (rep b).num * nv (dl (rep a).den) := ⟨_, rfl⟩
  obtain ⟨D, hD⟩ : ∃ D, D = nv (dl (rep a).den) * nv (dl (rep b).den) := ⟨_, rfl⟩
  have hD0 : D ≠ 0 := by rw [hD]; exact Nat.mul_ne_zero za zb
  have hPl : (lim P).length ≤ 4000 := by rw [hP]; exact len_prod gna gdb kan kb
  have hQl : (lim Q).length ≤ 4000 := by rw [hQ]; exact len_prod gnb gda kbn ka
  have hDl : (lim D).length ≤ 4000 := by rw [hD]; exact len_prod gda gdb ka kb
  have hp1 := fun W v1 v2 h1 h2 => prod_at (w := W) (va := v1) (vb := v2) h1 h2 gna gdb (by omega) (by omega)
  have hp2 := fun W v1 v2 h1 h2 => prod_at (w := W) (va := v1) (vb := v2) h1 h2 gnb gda (by omega) (by omega)
  have hp3 := fun W v1 v2 h1 h2 => prod_at (w := W) (va := v1) (vb := v2) h1 h2 gda gdb (by omega) (by omega)
  rw [← hP] at hp1 hr
  rw [← hQ] at hp2 hr
  rw [← hD] at hp3 hr
  have hsm := fun W v1 v2 h1 h2 => sum_any v1 v2 (lim P) (lim Q) W h1 h2 (lim_lim _) (lim_lim _) (by omega) (by omega)
  have hor := fun W v1 v2 h1 h2 => refOrder_any v1 v2 (lim P) (lim Q) W h1 h2 (lim_lim _) (lim_lim _) (by omega) (by omega)
  have hd1 := fun W v1 v2 h1 h2 (hle : Q ≤ P) => difference_any v1 v2 (lim P) (lim Q) W h1 h2 (lim_lim _) (lim_lim _) (lim_noZ _) (by omega) (by rw [nv_lim, nv_lim]; exact hle)
  have hd2 := fun W v1 v2 h1 h2 (hle : P ≤ Q) => difference_any v1 v2 (lim Q) (lim P) W h1 h2 (lim_lim _) (lim_lim _) (lim_noZ _) (by omega) (by rw [nv_lim, nv_lim]; exact hle)
  simp only [nv_lim] at hsm hor hd1 hd2
  have hmk := fun U (hU : U ≤ P + Q) s W v1 v2 h1 h2 => make_any s v1 v2 (lim U) (lim D) W h1 h2 (lim_lim _) (lim_lim _) (lim_noZ _) (lim_noZ _) (by have := len_sum hPl hQl hU; omega) (by omega) (by rw [nv_lim]; exact hD0)
  simp only [nv_lim] at hmk
  obtain ⟨R, hR⟩ : ∃ R, R = rep (a + b) := ⟨_, rfl⟩
  rw [← hR] at hr ⊢
  have hr1 : (rep a).neg = (rep b).neg → rep (mkRat (sg (rep a).neg (P + Q)) D) = R := fun h => by rw [if_pos h] at hr; exact hr
  have hr2 : ¬ (rep a).neg = (rep b).neg → P < Q → rep (mkRat (sg (rep b).neg (Q - P)) D) = R := fun h h2 => by rw [if_neg h, if_pos h2] at hr; exact hr
  have hr3 : ¬ (rep a).neg = (rep b).neg → ¬ P < Q → rep (mkRat (sg (rep a).neg (P - Q)) D) = R := fun h h2 => by rw [if_neg h, if_neg h2] at hr; exact hr
  clear hr
  obtain ⟨ra, hra⟩ : ∃ r, r = rep a := ⟨_, rfl⟩
  obtain ⟨rb, hrb⟩ : ∃ r, r = rep b := ⟨_, rfl⟩
  rw [← hra] at han had hda hp1 hp2 hp3 hr1 hr2 hr3 ⊢
  rw [← hrb] at hbn hbd hdb hp1 hp2 hp3 hr1 hr2 hr3 ⊢
  obtain ⟨s1, l1, l2⟩ := ra
  obtain ⟨s2, l3, l4⟩ := rb
  dsimp only at han had hbn hbd hda hdb hp1 hp2 hp3 hr1 hr2 hr3 ⊢
  have NA := Lib.hid han; have NB := Lib.hid hbn; have HDA := Lib.hid hda; have HDB := Lib.hid hdb; have HP1 := Lib.hid hp1; have HP2 := Lib.hid hp2; have HP3 := Lib.hid hp3; have HMK := Lib.hid hmk
  have HSM := Lib.hid hsm; have HOR := Lib.hid hor; have HD1 := Lib.hid hd1; have HD2 := Lib.hid hd2; have HR1 := Lib.hid hr1; have HR2 := Lib.hid hr2; have HR3 := Lib.hid hr3
  clear han had hbn hbd hda hdb hp1 hp2 hp3 hmk hsm hor hd1 hd2 hr1 hr2 hr3 hP hQ hD hR hra hrb ha hb sa sb ga gb gda gdb gna gnb ka kb kan kbn za zb hD0 hPl hQl hDl
  have bb0 := (((Blk.new w #[.bool s1, .slice a1 l1.length a2, .slice a3 l2.length a4] 62).alloc (.cells #[.bool s2, .slice b1 l3.length b2, .slice b3 l4.length b4] 62)).alloc (.cells #[.bool false, .slice none 0 0, .slice none 0 0] 62))
  have bb1 := ((Blk.new (w.alloc (.cells #[.bool s1, .slice a1 l1.length a2, .slice a3 l2.length a4] 62)) #[.bool s2, .slice b1 l3.length b2, .slice b3 l4.length b4] 62).alloc (.cells #[.bool false, .slice none 0 0, .slice none 0 0] 62))
  have bb2 := (Blk.new ((w.alloc (.cells #[.bool s1, .slice a1 l1.length a2, .slice a3 l2.length a4] 62)).alloc (.cells #[.bool s2, .slice b1 l3.length b2, .slice b3 l4.length b4] 62)) #[.bool false, .slice none 0 0, .slice none 0 0] 62)
  rw [World.size_alloc] at bb1
  rw [World.size_alloc, World.size_alloc] at bb2
  have x0 : Ext w (((w.alloc (.cells #[.bool s1, .slice a1 l1.length a2, .slice a3 l2.length a4] 62)).alloc (.cells #[.bool s2, .slice b1 l3.length b2, .slice b3 l4.length b4] 62)).alloc (.cells #[.bool false, .slice none 0 0, .slice none 0 0] 62)) := ((((Ext.refl w).alloc _).alloc _).alloc _)
  have A0 := Lib.hid bb0; have A1 := Lib.hid bb1; have A2 := Lib.hid bb2; have X := Lib.hid x0
  clear x0 bb0 bb1 bb2
  have NA := Lib.hid (NA.out.ext X.out); have NB := Lib.hid (NB.out.ext X.out)
  go_enter Tryz.func131, Tryz.ntmps131
  go_wp2_with fail
  refine wp_region_held_drew (S := (fun W => (Blk W w.heap.size #[.bool s1, .slice a1 l1.length a2, .slice a3 l2.length a4] 62 ∧ W.cell? ⟨w.heap.size, 0, none⟩ = some (.bool s1) ∧ W.cell? ⟨w.heap.size, 1, none⟩ = some (.slice a1 l1.length a2) ∧ W.cell? ⟨w.heap.size, 2, none⟩ = some (.slice a3 l2.length a4)) ∧ (Blk W (w.heap.size + 1) #[.bool s2, .slice b1 l3.length b2, .slice b3 l4.length b4] 62 ∧ W.cell? ⟨(w.heap.size + 1), 0, none⟩ = some (.bool s2) ∧ W.cell? ⟨(w.heap.size + 1), 1, none⟩ = some (.slice b1 l3.length b2) ∧ W.cell? ⟨(w.heap.size + 1), 2, none⟩ = some (.slice b3 l4.length b4)))) (by kernel_rfl) ?_ (fun hHeld => ?_)
  · exact ⟨Blk.s3 A0.out.drew, Blk.s3 A1.out.drew⟩
  refine wpAnyH_take (i := 0) (v := ?_) rfl (by kernel_rfl) (by kernel_rfl) (by kernel_rfl) (fun _ _ _ h => h) (Or.inl ⟨by rfl, ?_⟩) (by assumption) ?_
  rotate_left
  · (intro w hSw; (try dsimp only at hSw); go_simp; first | done | with_reducible rfl)
  (try simp only [Act.put, List.getElem_toArray, List.getElem_cons_zero, List.getElem_cons_succ, List.setIfInBounds_toArray, List.set_cons_zero, List.set_cons_succ])
  refine wpAnyH_take (i := 1) (v := ?_) rfl (by kernel_rfl) (by kernel_rfl) (by kernel_rfl) (fun _ _ _ h => h) (Or.inl ⟨by rfl, ?_⟩) (by assumption) ?_
  rotate_left
  · (intro w hSw; (try dsimp only at hSw); go_simp; first | done | with_reducible rfl)
  (try simp only [Act.put, List.getElem_toArray, List.getElem_cons_zero, List.getElem_cons_succ, List.setIfInBounds_toArray, List.set_cons_zero, List.set_cons_succ])
  refine wpAnyH_take (i := 2) (v := ?_) rfl (by kernel_rfl) (by kernel_rfl) (by kernel_rfl) (fun _ _ _ h => h) (Or.inl ⟨by rfl, ?_⟩) (by assumption) ?_
  rotate_left
  · (intro w hSw; (try dsimp only at hSw); go_simp; first | done | with_reducible rfl)
  (try simp only [Act.put, List.getElem_toArray, List.getElem_cons_zero, List.getElem_cons_succ, List.setIfInBounds_toArray, List.set_cons_zero, List.set_cons_succ])
  refine wpAnyH_ready (rs := [3]) (by kernel_rfl) (by simp) ?_
  refine AllReadyH.cons rfl (fun K hK => ?_) ?_
  rotate_left
  · exact AllReadyH.nil
  go_simp
  refine (HDB.out _ (Ext.trans X.out (by first | exact Ext.refl _ | exact (Ext.refl _).drew))).mono ?_
  rintro e w1 ⟨⟨v, rfl, nn⟩, hx⟩
  have hx := Ext.trans (show Ext (((w.alloc (.cells #[.bool s1, .slice a1 l1.length a2, .slice a3 l2.length a4] 62)).alloc (.cells #[.bool s2, .slice b1 l3.length b2, .slice b3 l4.length b4] 62)).alloc (.cells #[.bool false, .slice none 0 0, .slice none 0 0] 62)) _ from by first | exact Ext.refl _ | exact (Ext.refl _).drew) hx
  have NA := Lib.hid (NA.out.ext hx); have NB := Lib.hid (NB.out.ext hx); have A0 := Lib.hid (A0.out.ext hx); have A1 := Lib.hid (A1.out.ext hx); have A2 := Lib.hid (A2.out.ext hx); have X := Lib.hid (X.out.trans hx)
  obtain ⟨u1, u2, rfl⟩ := rdU_shape nn
  have Nu := Lib.hid nn
  clear nn hx
  first | refine hK.out _ _ ?_ (fun hHeld => ?_) | (go_wp2_with fail; refine hK.out _ _ ?_ (fun hHeld => ?_))
  · exact ⟨Blk.s3 A0.out, Blk.s3 A1.out⟩
  clear hK K
  (try simp only [Act.put, List.getElem_toArray, List.getElem_cons_zero, List.getElem_cons_succ, List.setIfInBounds_toArray, List.set_cons_zero, List.set_cons_succ])
  refine wpAnyH_ready (rs := [4]) (by kernel_rfl) (by simp) ?_
  refine AllReadyH.cons rfl (fun K hK => ?_) ?_
  rotate_left
  · exact AllReadyH.nil
  go_simp
  refine (HP1.out _ _ _ (NA.out.ext (by first | exact Ext.refl _ | exact (Ext.refl _).drew)) Nu.out).mono ?_
  rintro e w2 ⟨⟨v, rfl, nn⟩, hx⟩
  have hx := Ext.trans (show Ext w1 _ from by first | exact Ext.refl _ | exact (Ext.refl _).drew) hx
  have NA := Lib.hid (NA.out.ext hx); have NB := Lib.hid (NB.out.ext hx); have A0 := Lib.hid (A0.out.ext hx); have A1 := Lib.hid (A1.out.ext hx); have A2 := Lib.hid (A2.out.ext hx); have Nu := Lib.hid (Nu.out.ext hx); have X := Lib.hid (X.out.trans hx)
  obtain ⟨p1, p2, rfl⟩ := nn.shape
  have Np := Lib.hid nn.rd
  clear nn hx
  first | refine hK.out _ _ ?_ (fun hHeld => ?_) | (go_wp2_with fail; refine hK.out _ _ ?_ (fun hHeld => ?_))
  · exact ⟨Blk.s3 A0.out, Blk.s3 A1.out⟩
  clear hK K
  (try simp only [Act.put, List.getElem_toArray, List.getElem_cons_zero, List.getElem_cons_succ, List.setIfInBounds_toArray, List.set_cons_zero, List.set_cons_succ])
  refine wpAnyH_ready (rs := [5]) (by kernel_rfl) (by simp) ?_
  refine AllReadyH.cons rfl (fun K hK => ?_) ?_
  rotate_left
  · exact AllReadyH.nil
  go_simp
  first | refine hK.out _ _ ?_ (fun hHeld => ?_) | (go_wp2_with fail; refine hK.out _ _ ?_ (fun hHeld => ?_))
  · exact ⟨Blk.s3 A0.out, Blk.s3 A1.out⟩
  clear hK K
  (try simp only [Act.put, List.getElem_toArray, List.getElem_cons_zero, List.getElem_cons_succ, List.setIfInBounds_toArray, List.set_cons_zero, List.set_cons_succ])
  refine wpAnyH_done (by kernel_rfl) ?_ _
  go_wp2_with fail
  refine wp_region_held_drew (S := (fun W => (Blk W w.heap.size #[.bool s1, .slice a1 l1.length a2, .slice a3 l2.length a4] 62 ∧ W.cell? ⟨w.heap.size, 0, none⟩ = some (.bool s1) ∧ W.cell? ⟨w.heap.size, 1, none⟩ = some (.slice a1 l1.length a2) ∧ W.cell? ⟨w.heap.size, 2, none⟩ = some (.slice a3 l2.length a4)) ∧ (Blk W (w.heap.size + 1) #[.bool s2, .slice b1 l3.length b2, .slice b3 l4.length b4] 62 ∧ W.cell? ⟨(w.heap.size + 1), 0, none⟩ = some (.bool s2) ∧ W.cell? ⟨(w.heap.size + 1), 1, none⟩ = some (.slice b1 l3.length b2) ∧ W.cell? ⟨(w.heap.size + 1), 2, none⟩ = some (.slice b3 l4.length b4)))) (by kernel_rfl) ?_ (fun hHeld => ?_)
  · exact ⟨Blk.s3 A0.out.drew, Blk.s3 A1.out.drew⟩
  refine wpAnyH_take (i := 0) (v := ?_) rfl (by kernel_rfl) (by kernel_rfl) (by kernel_rfl) (fun _ _ _ h => h) (Or.inl ⟨by rfl, ?_⟩) (by assumption) ?_
  rotate_left
  · (intro w hSw; (try dsimp only at hSw); go_simp; first | done | with_reducible rfl)
  (try simp only [Act.put, List.getElem_toArray, List.getElem_cons_zero, List.getElem_cons_succ, List.setIfInBounds_toArray, List.set_cons_zero, List.set_cons_succ])
  refine wpAnyH_take (i := 1) (v := ?_) rfl (by kernel_rfl) (by kernel_rfl) (by kernel_rfl) (fun _ _ _ h => h) (Or.inl ⟨by rfl, ?_⟩) (by assumption) ?_
  rotate_left
  · (intro w hSw; (try dsimp only at hSw); go_simp; first | done | with_reducible rfl)
  (try simp only [Act.put, List.getElem_toArray, List.getElem_cons_zero, List.getElem_cons_succ, List.setIfInBounds_toArray, List.set_cons_zero, List.set_cons_succ])
  refine wpAnyH_take (i := 2) (v := ?_) rfl (by kernel_rfl) (by kernel_rfl) (by kernel_rfl) (fun _ _ _ h => h) (Or.inl ⟨by rfl, ?_⟩) (by assumption) ?_
  rotate_left
  · (intro w hSw; (try dsimp only at hSw); go_simp; first | done | with_reducible rfl)
  (try simp only [Act.put, List.getElem_toArray, List.getElem_cons_zero, List.getElem_cons_succ, List.setIfInBounds_toArray, List.set_cons_zero, List.set_cons_succ])
  refine wpAnyH_ready (rs := [3]) (by kernel_rfl) (by simp) ?_
  refine AllReadyH.cons rfl (fun K hK => ?_) ?_
  rotate_left
  · exact AllReadyH.nil
  go_simp
  refine (HDA.out _ (Ext.trans X.out (by first | exact Ext.refl _ | exact (Ext.refl _).drew))).mono ?_
  rintro e w3 ⟨⟨v, rfl, nn⟩, hx⟩
  have hx := Ext.trans (show Ext w2 _ from by first | exact Ext.refl _ | exact (Ext.refl _).drew) hx
  have NA := Lib.hid (NA.out.ext hx); have NB := Lib.hid (NB.out.ext hx); have A0 := Lib.hid (A0.out.ext hx); have A1 := Lib.hid (A1.out.ext hx); have A2 := Lib.hid (A2.out.ext hx); have Np := Lib.hid (Np.out.ext hx); have X := Lib.hid (X.out.trans hx)
  obtain ⟨ub1, ub2, rfl⟩ := rdU_shape nn
  have Nub := Lib.hid nn
  clear nn hx
  first | refine hK.out _ _ ?_ (fun hHeld => ?_) | (go_wp2_with fail; refine hK.out _ _ ?_ (fun hHeld => ?_))
  · exact ⟨Blk.s3 A0.out, Blk.s3 A1.out⟩
  clear hK K
  (try simp only [Act.put, List.getElem_toArray, List.getElem_cons_zero, List.getElem_cons_succ, List.setIfInBounds_toArray, List.set_cons_zero, List.set_cons_succ])
  refine wpAnyH_ready (rs := [4]) (by kernel_rfl) (by simp) ?_
  refine AllReadyH.cons rfl (fun K hK => ?_) ?_
  rotate_left
  · exact AllReadyH.nil
  go_simp
  refine (HP2.out _ _ _ (NB.out.ext (by first | exact Ext.refl _ | exact (Ext.refl _).drew)) Nub.out).mono ?_
  rintro e w4 ⟨⟨v, rfl, nn⟩, hx⟩
  have hx := Ext.trans (show Ext w3 _ from by first | exact Ext.refl _ | exact (Ext.refl _).drew) hx
  have NA := Lib.hid (NA.out.ext hx); have NB := Lib.hid (NB.out.ext hx); have A0 := Lib.hid (A0.out.ext hx); have A1 := Lib.hid (A1.out.ext hx); have A2 := Lib.hid (A2.out.ext hx); have Np := Lib.hid (Np.out.ext hx); have Nub := Lib.hid (Nub.out.ext hx); have X := Lib.hid (X.out.trans hx)
  obtain ⟨q1, q2, rfl⟩ := nn.shape
  have Nq := Lib.hid nn.rd
  clear nn hx
  first | refine hK.out _ _ ?_ (fun hHeld => ?_) | (go_wp2_with fail; refine hK.out _ _ ?_ (fun hHeld => ?_))
  · exact ⟨Blk.s3 A0.out, Blk.s3 A1.out⟩
  clear hK K
  (try simp only [Act.put, List.getElem_toArray, List.getElem_cons_zero, List.getElem_cons_succ, List.setIfInBounds_toArray, List.set_cons_zero, List.set_cons_succ])
  refine wpAnyH_ready (rs := [5]) (by kernel_rfl) (by simp) ?_
  refine AllReadyH.cons rfl (fun K hK => ?_) ?_
  rotate_left
  · exact AllReadyH.nil
  go_simp
  first | refine hK.out _ _ ?_ (fun hHeld => ?_) | (go_wp2_with fail; refine hK.out _ _ ?_ (fun hHeld => ?_))
  · exact ⟨Blk.s3 A0.out, Blk.s3 A1.out⟩
  clear hK K
  (try simp only [Act.put, List.getElem_toArray, List.getElem_cons_zero, List.getElem_cons_succ, List.setIfInBounds_toArray, List.set_cons_zero, List.set_cons_succ])
  refine wpAnyH_done (by kernel_rfl) ?_ _
  go_wp2_with fail
  refine wp_region_held_drew (S := (fun W => (Blk W w.heap.size #[.bool s1, .slice a1 l1.length a2, .slice a3 l2.length a4] 62 ∧ W.cell? ⟨w.heap.size, 0, none⟩ = some (.bool s1) ∧ W.cell? ⟨w.heap.size, 1, none⟩ = some (.slice a1 l1.length a2) ∧ W.cell? ⟨w.heap.size, 2, none⟩ = some (.slice a3 l2.length a4)) ∧ (Blk W (w.heap.size + 1) #[.bool s2, .slice b1 l3.length b2, .slice b3 l4.length b4] 62 ∧ W.cell? ⟨(w.heap.size + 1), 0, none⟩ = some (.bool s2) ∧ W.cell? ⟨(w.heap.size + 1), 1, none⟩ = some (.slice b1 l3.length b2) ∧ W.cell? ⟨(w.heap.size + 1), 2, none⟩ = some (.slice b3 l4.length b4)))) (by kernel_rfl) ?_ (fun hHeld => ?_)
  · exact ⟨Blk.s3 A0.out.drew, Blk.s3 A1.out.drew⟩
  refine wpAnyH_take (i := 0) (v := ?_) rfl (by kernel_rfl) (by kernel_rfl) (by kernel_rfl) (fun _ _ _ h => h) (Or.inl ⟨by rfl, ?_⟩) (by assumption) ?_
  rotate_left
  · (intro w hSw; (try dsimp only at hSw); go_simp; first | done | with_reducible rfl)
  (try simp only [Act.put, List.getElem_toArray, List.getElem_cons_zero, List.getElem_cons_succ, List.setIfInBounds_toArray, List.set_cons_zero, List.set_cons_succ])
  refine wpAnyH_take (i := 2) (v := ?_) rfl (by kernel_rfl) (by kernel_rfl) (by kernel_rfl) (fun _ _ _ h => h) (Or.inl ⟨by rfl, ?_⟩) (by assumption) ?_
  rotate_left
  · (intro w hSw; (try dsimp only at hSw); go_simp; first | done | with_reducible rfl)
  (try simp only [Act.put, List.getElem_toArray, List.getElem_cons_zero, List.getElem_cons_succ, List.setIfInBounds_toArray, List.set_cons_zero, List.set_cons_succ])
  refine wpAnyH_ready (rs := [1]) (by kernel_rfl) (by simp) ?_
  refine AllReadyH.cons rfl (fun K hK => ?_) ?_
  rotate_left
  · exact AllReadyH.nil
  go_simp
  refine (HDA.out _ (Ext.trans X.out (by first | exact Ext.refl _ | exact (Ext.refl _).drew))).mono ?_
  rintro e w5 ⟨⟨v, rfl, nn⟩, hx⟩
  have hx := Ext.trans (show Ext w4 _ from by first | exact Ext.refl _ | exact (Ext.refl _).drew) hx
  have NA := Lib.hid (NA.out.ext hx); have NB := Lib.hid (NB.out.ext hx); have A0 := Lib.hid (A0.out.ext hx); have A1 := Lib.hid (A1.out.ext hx); have A2 := Lib.hid (A2.out.ext hx); have Np := Lib.hid (Np.out.ext hx); have Nq := Lib.hid (Nq.out.ext hx); have X := Lib.hid (X.out.trans hx)
  obtain ⟨uc1, uc2, rfl⟩ := rdU_shape nn
  have Nuc := Lib.hid nn
  clear nn hx
  first | refine hK.out _ _ ?_ (fun hHeld => ?_) | (go_wp2_with fail; refine hK.out _ _ ?_ (fun hHeld => ?_))
  · exact ⟨Blk.s3 A0.out, Blk.s3 A1.out⟩
  clear hK K
  (try simp only [Act.put, List.getElem_toArray, List.getElem_cons_zero, List.getElem_cons_succ, List.setIfInBounds_toArray, List.set_cons_zero, List.set_cons_succ])
  refine wpAnyH_ready (rs := [3]) (by kernel_rfl) (by simp) ?_
  refine AllReadyH.cons rfl (fun K hK => ?_) ?_
  rotate_left
  · exact AllReadyH.nil
  go_simp
  refine (HDB.out _ (Ext.trans X.out (by first | exact Ext.refl _ | exact (Ext.refl _).drew))).mono ?_
  rintro e w6 ⟨⟨v, rfl, nn⟩, hx⟩
  have hx := Ext.trans (show Ext w5 _ from by first | exact Ext.refl _ | exact (Ext.refl _).drew) hx
  have NA := Lib.hid (NA.out.ext hx); have NB := Lib.hid (NB.out.ext hx); have A0 := Lib.hid (A0.out.ext hx); have A1 := Lib.hid (A1.out.ext hx); have A2 := Lib.hid (A2.out.ext hx); have Np := Lib.hid (Np.out.ext hx); have Nq := Lib.hid (Nq.out.ext hx); have Nuc := Lib.hid (Nuc.out.ext hx); have X := Lib.hid (X.out.trans hx)
  obtain ⟨ud1, ud2, rfl⟩ := rdU_shape nn
  have Nud := Lib.hid nn
  clear nn hx
  first | refine hK.out _ _ ?_ (fun hHeld => ?_) | (go_wp2_with fail; refine hK.out _ _ ?_ (fun hHeld => ?_))
  · exact ⟨Blk.s3 A0.out, Blk.s3 A1.out⟩
  clear hK K
  (try simp only [Act.put, List.getElem_toArray, List.getElem_cons_zero, List.getElem_cons_succ, List.setIfInBounds_toArray, List.set_cons_zero, List.set_cons_succ])
  refine wpAnyH_ready (rs := [4]) (by kernel_rfl) (by simp) ?_
  refine AllReadyH.cons rfl (fun K hK => ?_) ?_
  rotate_left
  · exact AllReadyH.nil
  go_simp
  refine (HP3.out _ _ _ Nuc.out Nud.out).mono ?_
  rintro e w7 ⟨⟨v, rfl, nn⟩, hx⟩
  have hx := Ext.trans (show Ext w6 _ from by first | exact Ext.refl _ | exact (Ext.refl _).drew) hx
  have NA := Lib.hid (NA.out.ext hx); have NB := Lib.hid (NB.out.ext hx); have A0 := Lib.hid (A0.out.ext hx); have A1 := Lib.hid (A1.out.ext hx); have A2 := Lib.hid (A2.out.ext hx); have Np := Lib.hid (Np.out.ext hx); have Nq := Lib.hid (Nq.out.ext hx); have Nuc := Lib.hid (Nuc.out.ext hx); have Nud := Lib.hid (Nud.out.ext hx); have X := Lib.hid (X.out.trans hx)
  obtain ⟨d1, d2, rfl⟩ := nn.shape
  have Nd := Lib.hid nn.rd
  clear nn hx
  first | refine hK.out _ _ ?_ (fun hHeld => ?_) | (go_wp2_with fail; refine hK.out _ _ ?_ (fun hHeld => ?_))
  · exact ⟨Blk.s3 A0.out, Blk.s3 A1.out⟩
  clear hK K
  (try simp only [Act.put, List.getElem_toArray, List.getElem_cons_zero, List.getElem_cons_succ, List.setIfInBounds_toArray, List.set_cons_zero, List.set_cons_succ])
  refine wpAnyH_ready (rs := [5]) (by kernel_rfl) (by simp) ?_
  refine AllReadyH.cons rfl (fun K hK => ?_) ?_
  rotate_left
  · exact AllReadyH.nil
  go_simp
  first | refine hK.out _ _ ?_ (fun hHeld => ?_) | (go_wp2_with fail; refine hK.out _ _ ?_ (fun hHeld => ?_))
  · exact ⟨Blk.s3 A0.out, Blk.s3 A1.out⟩
  clear hK K
  (try simp only [Act.put, List.getElem_toArray, List.getElem_cons_zero, List.getElem_cons_succ, List.setIfInBounds_toArray, List.set_cons_zero, List.set_cons_succ])
  refine wpAnyH_done (by kernel_rfl) ?_ _
  have hs9 : s1 = s2 ∨ ¬ s1 = s2 := Classical.em _
  have qA0 := A0.out.cell; have fA0 := A0.out.free; have lA0 := A0.out.lt; have qA1 := A1.out.cell; have fA1 := A1.out.free; have lA1 := A1.out.lt
  rcases hs9 with hs | hs
  · have hsb : (s1 == s2) = true := by simpa using hs
    have hmk9 := HMK.out (P + Q) (Nat.le_refl _) s1
    rw [HR1.out hs] at hmk9; have HMK9 := Lib.hid hmk9; clear hmk9
    clear hs
    go_wp2_with fail
    refine wp_region_held_drew (S := (fun W => (Blk W w.heap.size #[.bool s1, .slice a1 l1.length a2, .slice a3 l2.length a4] 62 ∧ W.cell? ⟨w.heap.size, 0, none⟩ = some (.bool s1) ∧ W.cell? ⟨w.heap.size, 1, none⟩ = some (.slice a1 l1.length a2) ∧ W.cell? ⟨w.heap.size, 2, none⟩ = some (.slice a3 l2.length a4)) ∧ (Blk W (w.heap.size + 1) #[.bool s2, .slice b1 l3.length b2, .slice b3 l4.length b4] 62 ∧ W.cell? ⟨(w.heap.size + 1), 0, none⟩ = some (.bool s2) ∧ W.cell? ⟨(w.heap.size + 1), 1, none⟩ = some (.slice b1 l3.length b2) ∧ W.cell? ⟨(w.heap.size + 1), 2, none⟩ = some (.slice b3 l4.length b4)))) (by kernel_rfl) ?_ (fun hHeld => ?_)
    · exact ⟨Blk.s3 A0.out.drew, Blk.s3 A1.out.drew⟩
    refine wpAnyH_take (i := 0) (v := ?_) rfl (by kernel_rfl) (by kernel_rfl) (by kernel_rfl) (fun _ _ _ h => h) (Or.inl ⟨by rfl, ?_⟩) (by assumption) ?_
    rotate_left
    · (intro w hSw; (try dsimp only at hSw); go_simp; first | done | with_reducible rfl)
    (try simp only [Act.put, List.getElem_toArray, List.getElem_cons_zero, List.getElem_cons_succ, List.setIfInBounds_toArray, List.set_cons_zero, List.set_cons_succ])
    refine wpAnyH_take (i := 1) (v := ?_) rfl (by kernel_rfl) (by kernel_rfl) (by kernel_rfl) (fun _ _ _ h => h) (Or.inl ⟨by rfl, ?_⟩) (by assumption) ?_
    rotate_left
    · (intro w hSw; (try dsimp only at hSw); go_simp; first | done | with_reducible rfl)
    (try simp only [Act.put, List.getElem_toArray, List.getElem_cons_zero, List.getElem_cons_succ, List.setIfInBounds_toArray, List.set_cons_zero, List.set_cons_succ])
    refine wpAnyH_take (i := 2) (v := ?_) rfl (by kernel_rfl) (by kernel_rfl) (by kernel_rfl) (fun _ _ _ h => h) (Or.inl ⟨by rfl, ?_⟩) (by assumption) ?_
    rotate_left
    · (intro w hSw; (try dsimp only at hSw); go_simp; first | done | with_reducible rfl)
    (try simp only [Act.put, List.getElem_toArray, List.getElem_cons_zero, List.getElem_cons_succ, List.setIfInBounds_toArray, List.set_cons_zero, List.set_cons_succ])
    refine wpAnyH_take (i := 3) (v := ?_) rfl (by kernel_rfl) (by kernel_rfl) (by kernel_rfl) (fun _ _ _ h => h) (Or.inl ⟨by rfl, ?_⟩) (by assumption) ?_
    rotate_left
    · (intro w hSw; (try dsimp only at hSw); go_simp; first | done | with_reducible rfl)
    (try simp only [Act.put, List.getElem_toArray, List.getElem_cons_zero, List.getElem_cons_succ, List.setIfInBounds_toArray, List.set_cons_zero, List.set_cons_succ])
    refine wpAnyH_take (i := 5) (v := ?_) rfl (by kernel_rfl) (by kernel_rfl) (by kernel_rfl) (fun _ _ _ h => h) (Or.inl ⟨by rfl, ?_⟩) (by assumption) ?_
    rotate_left
    · (intro w hSw; (try dsimp only at hSw); go_simp; first | done | with_reducible rfl)
    (try simp only [Act.put, List.getElem_toArray, List.getElem_cons_zero, List.getElem_cons_succ, List.setIfInBounds_toArray, List.set_cons_zero, List.set_cons_succ])
    refine wpAnyH_ready (rs := [4]) (by kernel_rfl) (by simp) ?_
    refine AllReadyH.cons rfl (fun K hK => ?_) ?_
    rotate_left
    · exact AllReadyH.nil
    go_simp
    refine (HSM.out _ _ _ (Np.out.ext (by first | exact Ext.refl _ | exact (Ext.refl _).drew)) (Nq.out.ext (by first | exact Ext.refl _ | exact (Ext.refl _).drew))).mono ?_
    rintro e w8 ⟨⟨v, rfl, nn⟩, hx⟩
    have hx := Ext.trans (show Ext w7 _ from by first | exact Ext.refl _ | exact (Ext.refl _).drew) hx
    clear qA0 fA0 lA0 qA1 fA1 lA1
    have A0 := Lib.hid (A0.out.ext hx); have A1 := Lib.hid (A1.out.ext hx); have A2 := Lib.hid (A2.out.ext hx); have Np := Lib.hid (Np.out.ext hx); have Nq := Lib.hid (Nq.out.ext hx); have Nd := Lib.hid (Nd.out.ext hx); have X := Lib.hid (X.out.trans hx)
    obtain ⟨m1, m2, rfl⟩ := nn.shape
    have Nm := Lib.hid nn.rd
    clear nn hx
    first | refine hK.out _ _ ?_ (fun hHeld => ?_) | (go_wp2_with fail; refine hK.out _ _ ?_ (fun hHeld => ?_))
    · exact ⟨Blk.s3 A0.out, Blk.s3 A1.out⟩
    clear hK K
    (try simp only [Act.put, List.getElem_toArray, List.getElem_cons_zero, List.getElem_cons_succ, List.setIfInBounds_toArray, List.set_cons_zero, List.set_cons_succ])
    have x6 := X.out
    refine wpAnyH_ready (rs := [6]) (by kernel_rfl) (by simp) ?_
    refine AllReadyH.cons rfl (fun K hK => ?_) ?_
    rotate_left
    · exact AllReadyH.nil
    go_simp
    refine (HMK9.out _ _ _ Nm.out (Nd.out.ext (by first | exact Ext.refl _ | exact (Ext.refl _).drew))).mono ?_
    rintro e w9 ⟨⟨v, rfl, nn⟩, hx⟩
    have hx := Ext.trans (show Ext w8 _ from by first | exact Ext.refl _ | exact (Ext.refl _).drew) hx
    have A0 := Lib.hid (A0.out.ext hx); have A1 := Lib.hid (A1.out.ext hx); have A2 := Lib.hid (A2.out.ext hx); have Np := Lib.hid (Np.out.ext hx); have Nq := Lib.hid (Nq.out.ext hx); have Nd := Lib.hid (Nd.out.ext hx); have Nm := Lib.hid (Nm.out.ext hx); have X := Lib.hid (X.out.trans hx)
    obtain ⟨r1, r2, r3, r4, rfl⟩ := nn.shape
    have Nr := Lib.hid nn.rd
    have Or := Lib.hid (nn.from (x6))
    clear nn hx
    first | refine hK.out _ _ ?_ (fun hHeld => ?_) | (go_wp2_with fail; refine hK.out _ _ ?_ (fun hHeld => ?_))
    · exact ⟨Blk.s3 A0.out, Blk.s3 A1.out⟩
    clear hK K
    (try simp only [Act.put, List.getElem_toArray, List.getElem_cons_zero, List.getElem_cons_succ, List.setIfInBounds_toArray, List.set_cons_zero, List.set_cons_succ])
    have q2 := A2.out.cell; have f2 := A2.out.free; have l2' := A2.out.lt
    refine wpAnyH_ready (rs := [7]) (by kernel_rfl) (by simp) ?_
    refine AllReadyH.cons rfl (fun K hK => ?_) ?_
    rotate_left
    · exact AllReadyH.nil
    go_simp
    first | refine hK.out _ _ ?_ (fun hHeld => ?_) | (go_wp2_with fail; refine hK.out _ _ ?_ (fun hHeld => ?_))
    · ((try dsimp only); (refine ⟨Blk.s3 ?_, Blk.s3 ?_⟩ <;> (repeat (first | exact A0.out | exact A1.out | refine Blk.setOther ?_ (by dsimp only; omega) _ | refine Blk.alloc ?_ _ | refine Blk.drew ?_))))
    clear hK K
    (try simp only [Act.put, List.getElem_toArray, List.getElem_cons_zero, List.getElem_cons_succ, List.setIfInBounds_toArray, List.set_cons_zero, List.set_cons_succ])
    refine wpAnyH_done (by kernel_rfl) ?_ _
    go_wp2_with fail
    refine bodyPost_ret (v := .agg #[.bool R.neg, .slice r1 R.num.length r2, .slice r3 R.den.length r4]) (by simp only [results, Tryz.results131]; go_simp) rfl ⟨⟨_, rfl, NewR.set3 Or.out A2.out (by decide) _ _ _⟩, ?_⟩
    have := X.out; (repeat (first | (with_reducible exact Ext.refl _) | (with_reducible assumption) | (with_reducible refine Ext.alloc ?_ _) | ((with_reducible refine Ext.setp ?_ ?_); focus (dsimp only; omega)) | (with_reducible refine Ext.drew ?_) | (with_reducible refine Ext.drewN ?_ _) | (with_reducible refine Ext.trans ?_ (by assumption))))
  · have hsb : (s1 == s2) = false := by simpa using hs
    have HS := Lib.hid hs
    clear hs
    go_wp2_with fail
    refine (HOR.out _ _ _ Np.out Nq.out).mono ?_
    rintro e w8 ⟨rfl, hx⟩
    clear qA0 fA0 lA0 qA1 fA1 lA1
    have A0 := Lib.hid (A0.out.ext hx); have A1 := Lib.hid (A1.out.ext hx); have A2 := Lib.hid (A2.out.ext hx); have Np := Lib.hid (Np.out.ext hx); have Nq := Lib.hid (Nq.out.ext hx); have Nd := Lib.hid (Nd.out.ext hx); have X := Lib.hid (X.out.trans hx)
    clear hx
    have qA0 := A0.out.cell; have fA0 := A0.out.free; have lA0 := A0.out.lt; have qA1 := A1.out.cell; have fA1 := A1.out.free; have lA1 := A1.out.lt
    by_cases hlt : P < Q
    · have ec : cmpN P Q = -1 := cmpN_lt hlt
      rw [ec]
      have hmk9 := HMK.out (Q - P) (by omega) s2
      rw [HR2.out HS.out hlt] at hmk9; have HMK9 := Lib.hid hmk9; clear hmk9
      have hle : P ≤ Q := by omega
      clear hlt ec
      go_wp2_with fail
      refine wp_region_held_drew (S := (fun W => (Blk W w.heap.size #[.bool s1, .slice a1 l1.length a2, .slice a3 l2.length a4] 62 ∧ W.cell? ⟨w.heap.size, 0, none⟩ = some (.bool s1) ∧ W.cell? ⟨w.heap.size, 1, none⟩ = some (.slice a1 l1.length a2) ∧ W.cell? ⟨w.heap.size, 2, none⟩ = some (.slice a3 l2.length a4)) ∧ (Blk W (w.heap.size + 1) #[.bool s2, .slice b1 l3.length b2, .slice b3 l4.length b4] 62 ∧ W.cell? ⟨(w.heap.size + 1), 0, none⟩ = some (.bool s2) ∧ W.cell? ⟨(w.heap.size + 1), 1, none⟩ = some (.slice b1 l3.length b2) ∧ W.cell? ⟨(w.heap.size + 1), 2, none⟩ = some (.slice b3 l4.length b4)))) (by kernel_rfl) ?_ (fun hHeld => ?_)
      · exact ⟨Blk.s3 A0.out.drew, Blk.s3 A1.out.drew⟩
      refine wpAnyH_take (i := 0) (v := ?_) rfl (by kernel_rfl) (by kernel_rfl) (by kernel_rfl) (fun _ _ _ h => h) (Or.inl ⟨by rfl, ?_⟩) (by assumption) ?_
      rotate_left
      · (intro w hSw; (try dsimp only at hSw); go_simp; first | done | with_reducible rfl)
      (try simp only [Act.put, List.getElem_toArray, List.getElem_cons_zero, List.getElem_cons_succ, List.setIfInBounds_toArray, List.set_cons_zero, List.set_cons_succ])
      refine wpAnyH_take (i := 1) (v := ?_) rfl (by kernel_rfl) (by kernel_rfl) (by kernel_rfl) (fun _ _ _ h => h) (Or.inl ⟨by rfl, ?_⟩) (by assumption) ?_
      rotate_left
      · (intro w hSw; (try dsimp only at hSw); go_simp; first | done | with_reducible rfl)
      (try simp only [Act.put, List.getElem_toArray, List.getElem_cons_zero, List.getElem_cons_succ, List.setIfInBounds_toArray, List.set_cons_zero, List.set_cons_succ])
      refine wpAnyH_take (i := 2) (v := ?_) rfl (by kernel_rfl) (by kernel_rfl) (by kernel_rfl) (fun _ _ _ h => h) (Or.inl ⟨by rfl, ?_⟩) (by assumption) ?_
      rotate_left
      · (intro w hSw; (try dsimp only at hSw); go_simp; first | done | with_reducible rfl)
      (try simp only [Act.put, List.getElem_toArray, List.getElem_cons_zero, List.getElem_cons_succ, List.setIfInBounds_toArray, List.set_cons_zero, List.set_cons_succ])
      refine wpAnyH_take (i := 3) (v := ?_) rfl (by kernel_rfl) (by kernel_rfl) (by kernel_rfl) (fun _ _ _ h => h) (Or.inl ⟨by rfl, ?_⟩) (by assumption) ?_
      rotate_left
      · (intro w hSw; (try dsimp only at hSw); go_simp; first | done | with_reducible rfl)
      (try simp only [Act.put, List.getElem_toArray, List.getElem_cons_zero, List.getElem_cons_succ, List.setIfInBounds_toArray, List.set_cons_zero, List.set_cons_succ])
      refine wpAnyH_take (i := 5) (v := ?_) rfl (by kernel_rfl) (by kernel_rfl) (by kernel_rfl) (fun _ _ _ h => h) (Or.inl ⟨by rfl, ?_⟩) (by assumption) ?_
      rotate_left
      · (intro w hSw; (try dsimp only at hSw); go_simp; first | done | with_reducible rfl)
      (try simp only [Act.put, List.getElem_toArray, List.getElem_cons_zero, List.getElem_cons_succ, List.setIfInBounds_toArray, List.set_cons_zero, List.set_cons_succ])
      refine wpAnyH_ready (rs := [4]) (by kernel_rfl) (by simp) ?_
      refine AllReadyH.cons rfl (fun K hK => ?_) ?_
      rotate_left
      · exact AllReadyH.nil
      go_simp
      refine (HD2.out _ _ _ (Nq.out.ext (by first | exact Ext.refl _ | exact (Ext.refl _).drew)) (Np.out.ext (by first | exact Ext.refl _ | exact (Ext.refl _).drew)) hle).mono ?_
      rintro e w9 ⟨⟨v, rfl, nn⟩, hx⟩
      have hx := Ext.trans (show Ext w8 _ from by first | exact Ext.refl _ | exact (Ext.refl _).drew) hx
      clear qA0 fA0 lA0 qA1 fA1 lA1
      have A0 := Lib.hid (A0.out.ext hx); have A1 := Lib.hid (A1.out.ext hx); have A2 := Lib.hid (A2.out.ext hx); have Np := Lib.hid (Np.out.ext hx); have Nq := Lib.hid (Nq.out.ext hx); have Nd := Lib.hid (Nd.out.ext hx); have X := Lib.hid (X.out.trans hx)
      obtain ⟨m1, m2, rfl⟩ := nn.shape
      have Nm := Lib.hid nn.rd
      clear nn hx
      first | refine hK.out _ _ ?_ (fun hHeld => ?_) | (go_wp2_with fail; refine hK.out _ _ ?_ (fun hHeld => ?_))
      · exact ⟨Blk.s3 A0.out, Blk.s3 A1.out⟩
      clear hK K
      (try simp only [Act.put, List.getElem_toArray, List.getElem_cons_zero, List.getElem_cons_succ, List.setIfInBounds_toArray, List.set_cons_zero, List.set_cons_succ])
      have x6 := X.out
      refine wpAnyH_ready (rs := [6]) (by kernel_rfl) (by simp) ?_
      refine AllReadyH.cons rfl (fun K hK => ?_) ?_
      rotate_left
      · exact AllReadyH.nil
      go_simp
      refine (HMK9.out _ _ _ Nm.out (Nd.out.ext (by first | exact Ext.refl _ | exact (Ext.refl _).drew))).mono ?_
      rintro e w10 ⟨⟨v, rfl, nn⟩, hx⟩
      have hx := Ext.trans (show Ext w9 _ from by first | exact Ext.refl _ | exact (Ext.refl _).drew) hx
      have A0 := Lib.hid (A0.out.ext hx); have A1 := Lib.hid (A1.out.ext hx); have A2 := Lib.hid (A2.out.ext hx); have Np := Lib.hid (Np.out.ext hx); have Nq := Lib.hid (Nq.out.ext hx); have Nd := Lib.hid (Nd.out.ext hx); have Nm := Lib.hid (Nm.out.ext hx); have X := Lib.hid (X.out.trans hx)
      obtain ⟨r1, r2, r3, r4, rfl⟩ := nn.shape
      have Nr := Lib.hid nn.rd
      have Or := Lib.hid (nn.from (x6))
      clear nn hx
      first | refine hK.out _ _ ?_ (fun hHeld => ?_) | (go_wp2_with fail; refine hK.out _ _ ?_ (fun hHeld => ?_))
      · exact ⟨Blk.s3 A0.out, Blk.s3 A1.out⟩
      clear hK K
      (try simp only [Act.put, List.getElem_toArray, List.getElem_cons_zero, List.getElem_cons_succ, List.setIfInBounds_toArray, List.set_cons_zero, List.set_cons_succ])
      have q2 := A2.out.cell; have f2 := A2.out.free; have l2' := A2.out.lt
      refine wpAnyH_ready (rs := [7]) (by kernel_rfl) (by simp) ?_
      refine AllReadyH.cons rfl (fun K hK => ?_) ?_
      rotate_left
      · exact AllReadyH.nil
      go_simp
      first | refine hK.out _ _ ?_ (fun hHeld => ?_) | (go_wp2_with fail; refine hK.out _ _ ?_ (fun hHeld => ?_))
      · ((try dsimp only); (refine ⟨Blk.s3 ?_, Blk.s3 ?_⟩ <;> (repeat (first | exact A0.out | exact A1.out | refine Blk.setOther ?_ (by dsimp only; omega) _ | refine Blk.alloc ?_ _ | refine Blk.drew ?_))))
      clear hK K
      (try simp only [Act.put, List.getElem_toArray, List.getElem_cons_zero, List.getElem_cons_succ, List.setIfInBounds_toArray, List.set_cons_zero, List.set_cons_succ])
      refine wpAnyH_done (by kernel_rfl) ?_ _
      go_wp2_with fail
      refine bodyPost_ret (v := .agg #[.bool R.neg, .slice r1 R.num.length r2, .slice r3 R.den.length r4]) (by simp only [results, Tryz.results131]; go_simp) rfl ⟨⟨_, rfl, NewR.set3 Or.out A2.out (by decide) _ _ _⟩, ?_⟩
      have := X.out; (repeat (first | (with_reducible exact Ext.refl _) | (with_reducible assumption) | (with_reducible refine Ext.alloc ?_ _) | ((with_reducible refine Ext.setp ?_ ?_); focus (dsimp only; omega)) | (with_reducible refine Ext.drew ?_) | (with_reducible refine Ext.drewN ?_ _) | (with_reducible refine Ext.trans ?_ (by assumption))))
    · have ec : 0 ≤ cmpN P Q := by unfold cmpN sgn; rw [if_neg (by omega)]; split <;> omega
      obtain ⟨cc, hcc⟩ : ∃ cc, cc = cmpN P Q := ⟨_, rfl⟩
      rw [← hcc] at ec ⊢
      have hmk9 := HMK.out (P - Q) (by omega) s1
      rw [HR3.out HS.out hlt] at hmk9; have HMK9 := Lib.hid hmk9; clear hmk9
      have hle : Q ≤ P := by omega
      clear hlt hcc
      go_wp2_with fail
      refine wp_region_held_drew (S := (fun W => (Blk W w.heap.size #[.bool s1, .slice a1 l1.length a2, .slice a3 l2.length a4] 62 ∧ W.cell? ⟨w.heap.size, 0, none⟩ = some (.bool s1) ∧ W.cell? ⟨w.heap.size, 1, none⟩ = some (.slice a1 l1.length a2) ∧ W.cell? ⟨w.heap.size, 2, none⟩ = some (.slice a3 l2.length a4)) ∧ (Blk W (w.heap.size + 1) #[.bool s2, .slice b1 l3.length b2, .slice b3 l4.length b4] 62 ∧ W.cell? ⟨(w.heap.size + 1), 0, none⟩ = some (.bool s2) ∧ W.cell? ⟨(w.heap.size + 1), 1, none⟩ = some (.slice b1 l3.length b2) ∧ W.cell? ⟨(w.heap.size + 1), 2, none⟩ = some (.slice b3 l4.length b4)))) (by kernel_rfl) ?_ (fun hHeld => ?_)
      · exact ⟨Blk.s3 A0.out.drew, Blk.s3 A1.out.drew⟩
      refine wpAnyH_take (i := 0) (v := ?_) rfl (by kernel_rfl) (by kernel_rfl) (by kernel_rfl) (fun _ _ _ h => h) (Or.inl ⟨by rfl, ?_⟩) (by assumption) ?_
      rotate_left
      · (intro w hSw; (try dsimp only at hSw); go_simp; first | done | with_reducible rfl)
      (try simp only [Act.put, List.getElem_toArray, List.getElem_cons_zero, List.getElem_cons_succ, List.setIfInBounds_toArray, List.set_cons_zero, List.set_cons_succ])
      refine wpAnyH_take (i := 1) (v := ?_) rfl (by kernel_rfl) (by kernel_rfl) (by kernel_rfl) (fun _ _ _ h => h) (Or.inl ⟨by rfl, ?_⟩) (by assumption) ?_
      rotate_left
      · (intro w hSw; (try dsimp only at hSw); go_simp; first | done | with_reducible rfl)
      (try simp only [Act.put, List.getElem_toArray, List.getElem_cons_zero, List.getElem_cons_succ, List.setIfInBounds_toArray, List.set_cons_zero, List.set_cons_succ])
      refine wpAnyH_take (i := 2) (v := ?_) rfl (by kernel_rfl) (by kernel_rfl) (by kernel_rfl) (fun _ _ _ h => h) (Or.inl ⟨by rfl, ?_⟩) (by assumption) ?_
      rotate_left
      · (intro w hSw; (try dsimp only at hSw); go_simp; first | done | with_reducible rfl)
      (try simp only [Act.put, List.getElem_toArray, List.getElem_cons_zero, List.getElem_cons_succ, List.setIfInBounds_toArray, List.set_cons_zero, List.set_cons_succ])
      refine wpAnyH_take (i := 3) (v := ?_) rfl (by kernel_rfl) (by kernel_rfl) (by kernel_rfl) (fun _ _ _ h => h) (Or.inl ⟨by rfl, ?_⟩) (by assumption) ?_
      rotate_left
      · (intro w hSw; (try dsimp only at hSw); go_simp; first | done | with_reducible rfl)
      (try simp only [Act.put, List.getElem_toArray, List.getElem_cons_zero, List.getElem_cons_succ, List.setIfInBounds_toArray, List.set_cons_zero, List.set_cons_succ])
      refine wpAnyH_take (i := 5) (v := ?_) rfl (by kernel_rfl) (by kernel_rfl) (by kernel_rfl) (fun _ _ _ h => h) (Or.inl ⟨by rfl, ?_⟩) (by assumption) ?_
      rotate_left
      · (intro w hSw; (try dsimp only at hSw); go_simp; first | done | with_reducible rfl)
      (try simp only [Act.put, List.getElem_toArray, List.getElem_cons_zero, List.getElem_cons_succ, List.setIfInBounds_toArray, List.set_cons_zero, List.set_cons_succ])
      refine wpAnyH_ready (rs := [4]) (by kernel_rfl) (by simp) ?_
      refine AllReadyH.cons rfl (fun K hK => ?_) ?_
      rotate_left
      · exact AllReadyH.nil
      go_simp
      refine (HD1.out _ _ _ (Np.out.ext (by first | exact Ext.refl _ | exact (Ext.refl _).drew)) (Nq.out.ext (by first | exact Ext.refl _ | exact (Ext.refl _).drew)) hle).mono ?_
      rintro e w9 ⟨⟨v, rfl, nn⟩, hx⟩
      have hx := Ext.trans (show Ext w8 _ from by first | exact Ext.refl _ | exact (Ext.refl _).drew) hx
      clear qA0 fA0 lA0 qA1 fA1 lA1
      have A0 := Lib.hid (A0.out.ext hx); have A1 := Lib.hid (A1.out.ext hx); have A2 := Lib.hid (A2.out.ext hx); have Np := Lib.hid (Np.out.ext hx); have Nq := Lib.hid (Nq.out.ext hx); have Nd := Lib.hid (Nd.out.ext hx); have X := Lib.hid (X.out.trans hx)
      obtain ⟨m1, m2, rfl⟩ := nn.shape
      have Nm := Lib.hid nn.rd
      clear nn hx
      first | refine hK.out _ _ ?_ (fun hHeld => ?_) | (go_wp2_with fail; refine hK.out _ _ ?_ (fun hHeld => ?_))
      · exact ⟨Blk.s3 A0.out, Blk.s3 A1.out⟩
      clear hK K
      (try simp only [Act.put, List.getElem_toArray, List.getElem_cons_zero, List.getElem_cons_succ, List.setIfInBounds_toArray, List.set_cons_zero, List.set_cons_succ])
      have x6 := X.out
      refine wpAnyH_ready (rs := [6]) (by kernel_rfl) (by simp) ?_
      refine AllReadyH.cons rfl (fun K hK => ?_) ?_
      rotate_left
      · exact AllReadyH.nil
      go_simp
      refine (HMK9.out _ _ _ Nm.out (Nd.out.ext (by first | exact Ext.refl _ | exact (Ext.refl _).drew))).mono ?_
      rintro e w10 ⟨⟨v, rfl, nn⟩, hx⟩
      have hx := Ext.trans (show Ext w9 _ from by first | exact Ext.refl _ | exact (Ext.refl _).drew) hx
      have A0 := Lib.hid (A0.out.ext hx); have A1 := Lib.hid (A1.out.ext hx); have A2 := Lib.hid (A2.out.ext hx); have Np := Lib.hid (Np.out.ext hx); have Nq := Lib.hid (Nq.out.ext hx); have Nd := Lib.hid (Nd.out.ext hx); have Nm := Lib.hid (Nm.out.ext hx); have X := Lib.hid (X.out.trans hx)
      obtain ⟨r1, r2, r3, r4, rfl⟩ := nn.shape
      have Nr := Lib.hid nn.rd
      have Or := Lib.hid (nn.from (x6))
      clear nn hx
      first | refine hK.out _ _ ?_ (fun hHeld => ?_) | (go_wp2_with fail; refine hK.out _ _ ?_ (fun hHeld => ?_))
      · exact ⟨Blk.s3 A0.out, Blk.s3 A1.out⟩
      clear hK K
      (try simp only [Act.put, List.getElem_toArray, List.getElem_cons_zero, List.getElem_cons_succ, List.setIfInBounds_toArray, List.set_cons_zero, List.set_cons_succ])
      have q2 := A2.out.cell; have f2 := A2.out.free; have l2' := A2.out.lt
      refine wpAnyH_ready (rs := [7]) (by kernel_rfl) (by simp) ?_
      refine AllReadyH.cons rfl (fun K hK => ?_) ?_
      rotate_left
      · exact AllReadyH.nil
      go_simp
      first | refine hK.out _ _ ?_ (fun hHeld => ?_) | (go_wp2_with fail; refine hK.out _ _ ?_ (fun hHeld => ?_))
      · ((try dsimp only); (refine ⟨Blk.s3 ?_, Blk.s3 ?_⟩ <;> (repeat (first | exact A0.out | exact A1.out | refine Blk.setOther ?_ (by dsimp only; omega) _ | refine Blk.alloc ?_ _ | refine Blk.drew ?_))))
      clear hK K
      (try simp only [Act.put, List.getElem_toArray, List.getElem_cons_zero, List.getElem_cons_succ, List.setIfInBounds_toArray, List.set_cons_zero, List.set_cons_succ])
      refine wpAnyH_done (by kernel_rfl) ?_ _
      go_wp2_with fail
      refine bodyPost_ret (v := .agg #[.bool R.neg, .slice r1 R.num.length r2, .slice r3 R.den.length r4]) (by simp only [results, Tryz.results131]; go_simp) rfl ⟨⟨_, rfl, NewR.set3 Or.out A2.out (by decide) _ _ _⟩, ?_⟩
      have := X.out; (repeat (first | (with_reducible exact Ext.refl _) | (with_reducible assumption) | (with_reducible refine Ext.alloc ?_ _) | ((with_reducible refine Ext.setp ?_ ?_); focus (dsimp only; omega)) | (with_reducible refine Ext.drew ?_) | (with_reducible refine Ext.drewN ?_ _) | (with_reducible refine Ext.trans ?_ (by assumption))))

end Go.Proofs.YthkfkfbfblppeaaGreat
