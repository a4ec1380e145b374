/- divide and DivMod of layer 5 once more: the two results lie apart (written by mkdivA.py). Conditions: as each states. -/
import Derived.Test.YtebdmmlniohhgaaGD
namespace Go.Proofs.Ytebdmmlniohhgaa
set_option linter.unusedSimpArgs false
set_option linter.unusedVariables false
open Go.RowKit Go.Shelf
attribute [local go_sem] Oper.semAt_some

/-- Two results of the call's own, the second one's block behind the first one's. -/
def Two (w w' : World) (v1 v2 : Value) (l1 l2 : List Int) : Prop := ∃ m, w.heap.size ≤ m ∧ (∃ o, OwV w' o v1 l1 ∧ ∀ g, o = some g → w.heap.size ≤ g ∧ g < m) ∧ OwB w' m v2 l2
theorem Two.nil (w w' : World) : Two w w' (.slice none 0 0) (.slice none 0 0) [] [] := ⟨w.heap.size, Nat.le_refl _, ⟨none, .nil w', fun g h => by cases h⟩, OwB.nil _ _⟩
theorem Two.from {w0 w w' : World} {v1 v2 : Value} {l1 l2 : List Int} (h : Two w w' v1 v2 l1 l2) (x : Ext w0 w) : Two w0 w' v1 v2 l1 l2 := by
  obtain ⟨m, h0, ⟨o, h1, h2⟩, h3⟩ := h
  exact ⟨m, Nat.le_trans x.size h0, ⟨o, h1, fun g hg => ⟨Nat.le_trans x.size (h2 g hg).1, (h2 g hg).2⟩⟩, h3⟩
def Res4 (w w' : World) (e : Ending) (r : List Int × List Int × Int) : Prop := ∃ v1 v2, e = .returned (.tuple #[v1, v2, .int .i64 r.2.2]) ∧ Two w w' v1 v2 r.1 r.2.1
theorem Res4.mk {w w' : World} {v1 v2 : Value} {l1 l2 : List Int} {x : Int} {r : List Int × List Int × Int} (h1 : Two w w' v1 v2 l1 l2) (e : r = (l1, l2, x)) : Res4 w w' (.returned (.tuple #[v1, v2, .int .i64 x])) r := by subst e; exact ⟨v1, v2, rfl, h1⟩

set_option maxRecDepth 100000 in
set_option maxHeartbeats 4000000 in
theorem divideA_any (va vb : Value) (la lb : List Int) (w : World) (ha : RdI .u32 w va la) (hb : RdI .u32 w vb lb) (hla : Lim la) (hlb : Lim lb) (za : NoZ la) (zb : NoZ lb) (hs : la.length ≤ 10000) (hs2 : lb.length ≤ 10000) (hpos : 0 < nv lb) :
    Calls Try.prog 106 #[va, vb] w fun e w' => (∃ v1 v2, e = .returned (.tuple #[v1, v2]) ∧ Two w w' v1 v2 (lim (nv la / nv lb)) (lim (nv la % nv lb))) ∧ Ext w w' := by
  have HA := Lib.hid ha; have HB := Lib.hid hb
  obtain ⟨aa, ca, rfl, hca, hma, hra⟩ := rdU ha
  obtain ⟨ab, cb, rfl, hcb, hmb, hrb⟩ := rdU hb
  have HLA := Lib.hid hla; have HLB := Lib.hid hlb; have HZA := Lib.hid za; have HZB := Lib.hid zb
  clear ha hb hra hrb hla hlb za zb
  have b0 : Blk (((w.alloc (.cells #[.slice ab lb.length cb] 24)).alloc (.cells #[.slice none 0 0] 24)).alloc (.cells #[.slice none 0 0] 24)) w.heap.size #[.slice ab lb.length cb] 24 := ((Blk.new w _ _).alloc _).alloc _
  have b1 : Blk (((w.alloc (.cells #[.slice ab lb.length cb] 24)).alloc (.cells #[.slice none 0 0] 24)).alloc (.cells #[.slice none 0 0] 24)) (w.heap.size + 1) #[.slice none 0 0] 24 := by
    have := (Blk.new (w.alloc (.cells #[.slice ab lb.length cb] 24)) #[.slice none 0 0] 24).alloc (.cells #[.slice none 0 0] 24)
    rwa [World.size_alloc] at this
  have b2 : Blk (((w.alloc (.cells #[.slice ab lb.length cb] 24)).alloc (.cells #[.slice none 0 0] 24)).alloc (.cells #[.slice none 0 0] 24)) (w.heap.size + 1 + 1) #[.slice none 0 0] 24 := by
    have := Blk.new ((w.alloc (.cells #[.slice ab lb.length cb] 24)).alloc (.cells #[.slice none 0 0] 24)) #[.slice none 0 0] 24
    rwa [World.size_alloc, World.size_alloc] at this
  have hx0 : Ext w (((w.alloc (.cells #[.slice ab lb.length cb] 24)).alloc (.cells #[.slice none 0 0] 24)).alloc (.cells #[.slice none 0 0] 24)) := (((Ext.refl w).alloc _).alloc _).alloc _
  have hsz : (((w.alloc (.cells #[.slice ab lb.length cb] 24)).alloc (.cells #[.slice none 0 0] 24)).alloc (.cells #[.slice none 0 0] 24)).heap.size = w.heap.size + 1 + 1 + 1 := by simp
  have GB0 := Lib.hid b0; have GB1 := Lib.hid b1; have GB2 := Lib.hid b2; have GX := Lib.hid hx0; have GS := Lib.hid hsz
  clear b0 b1 b2 hx0 hsz
  refine (callsIn_wide (n := 8)).1 ?_
  refine callsIn_of_wp_marks Try.func106 rfl trivial ?_ rfl
  simp only [Try.ntmps106, List.size_toArray, List.length_cons, List.length_nil, Nat.reduceAdd, Nat.reduceSub, Array.replicate_succ, Array.replicate_zero, List.push_toArray, List.append_toArray, List.nil_append, List.cons_append]
  gi_wp2_with (with_reducible refine wpListIn_make_u rfl _ _ rfl _ _ la.length rfl rfl rfl rfl (by omega) ?_)
  intro w2 hrow2 hx2 hsz2
  have hz3 := Lib.hid (GX.out.trans hx2)
  have B0 := GB0.out.ext hx2; have B1 := GB1.out.ext hx2; have B2 := GB2.out.ext hx2
  have c1 := B1.cell; have f1 := B1.free; have l1 := B1.lt
  have K0 := Lib.hid (B0.setOther (a := ⟨w.heap.size + 1, 0, none⟩) (by dsimp only; omega) (.slice (some ⟨w.heap.size + 1 + 1 + 1, 0, none⟩) la.length la.length))
  have K1 := Lib.hid (B1.set 0 (.slice (some ⟨w.heap.size + 1 + 1 + 1, 0, none⟩) la.length la.length))
  have K2 := Lib.hid (B2.setOther (a := ⟨w.heap.size + 1, 0, none⟩) (by dsimp only; omega) (.slice (some ⟨w.heap.size + 1 + 1 + 1, 0, none⟩) la.length la.length))
  have KR := Lib.hid (hrow2.setOther (x := ⟨w.heap.size + 1, 0, none⟩) (by dsimp only; omega) (.slice (some ⟨w.heap.size + 1 + 1 + 1, 0, none⟩) la.length la.length))
  have KX := Lib.hid (hz3.out.set (p := ⟨w.heap.size + 1, 0, none⟩) (by dsimp only; omega) (.slice (some ⟨w.heap.size + 1 + 1 + 1, 0, none⟩) la.length la.length))
  have KS := Lib.hid hsz2
  clear B0 B1 B2 hrow2 hx2 hsz2 hz3 GB0 GB1 GB2 GX GS
  gi_wp2_with fail
  refine ⟨trivial, (callsIn_wide.2 (digits_any aa la.length ca _)).mono ?_⟩
  rintro e w3 ⟨rfl, hw3⟩
  have hzs : (w2.setCell ⟨w.heap.size + 1, 0, none⟩ (.slice (some ⟨w.heap.size + 1 + 1 + 1, 0, none⟩) la.length la.length)).heap.size = w2.heap.size := by simp [World.setCell]
  have hx3 : Ext (w2.setCell ⟨w.heap.size + 1, 0, none⟩ (.slice (some ⟨w.heap.size + 1 + 1 + 1, 0, none⟩) la.length la.length)) w3 := by rw [hw3]; exact (Ext.refl _).alloc _
  have hBx : Blk w3 (w2.heap.size) #[.slice aa la.length ca] 24 := by rw [hw3, ← hzs]; exact Blk.new _ _ _
  have hX : w.heap.size + 1 + 1 + 1 < w2.heap.size := by rw [KS.out]; omega
  have hm3 : w2.heap.size < w3.heap.size := by rw [hw3]; simp only [World.size_alloc]; rw [hzs]; omega
  have L0 := Lib.hid (K0.out.ext hx3); have L1 := Lib.hid (show Blk w3 (w.heap.size + 1) #[.slice (some ⟨w.heap.size + 1 + 1 + 1, 0, none⟩) la.length la.length] 24 by have := K1.out.ext hx3; simpa using this)
  have L2 := Lib.hid (K2.out.ext hx3); have LR := Lib.hid (KR.out.ext hx3); have LX := Lib.hid (KX.out.trans hx3); have LB := Lib.hid hBx
  clear K0 K1 K2 KR KX KS hw3 hzs hx3 hBx c1 f1 l1
  gi_wp2_with fail
  have hA3 := Lib.hid (HA.out.ext LX.out)
  have hseq : ∀ W1, Ext w3 W1 → DownSeq Fence.wide 7 Try.prog 129 #[.pointer (some ⟨w2.heap.size, 0, none⟩)] (blen (nv la)) (fun k (x : Int) => #[.int .i64 k, .int .u32 x]) (RdDg (w2.heap.size) aa ca la) (w3.heap.size + 1) W1 :=
    fun W1 hx => digits1_seq 7 (by omega) aa ca (w2.heap.size) _ la W1 (by have := (LB.out.ext hx).cell 0; simpa using this) hca hma (by have := hx.size; omega) (hA3.out.ext hx) HLA.out HZA.out (by omega)
  refine wpIn_range_down rfl (by omega) (gf := 129) (lb := #[.pointer (some ⟨w2.heap.size, 0, none⟩)]) rfl trivial (enters_of Try.func129 (by kernel_rfl) rfl) (blen (nv la)) hseq (fun _ _ => rfl)
    (fun k W => DivI w3 la lb (.slice ab lb.length cb) w.heap.size (w.heap.size + 1 + 1 + 1) w3.heap.size k W)
    (fun c k W => False)
    (fun k A B h z => h.kz z (by omega) (by omega) rfl)
    (fun c k A B h z => h)
    ?hIr ?h0
    (DivAx w3 la lb (.slice ab lb.length cb) w.heap.size (w.heap.size + 1 + 1 + 1) w3.heap.size (w2.heap.size) aa ca) ?hAx ?hassign ?hbody ?hdone ?hstop
  case hIr =>
    rintro k W hk ⟨lq, vr, h1, h2, h3, h4, h5, h6, h7, h8, h9, h10⟩
    refine ⟨_, ?_, ?_, rfl⟩
    · have hb : Blk W (w2.heap.size) #[.slice aa la.length ca] 24 := (h9 _ (by omega) (by omega) (by omega)).trans LB.out
      have := hb.cell 0; simpa using this
    · intro i hi
      obtain ⟨b, off, rfl, hbl, hc⟩ := rdU_at HA.out i hi
      refine ⟨b, off, rfl, by have := h10.size; omega, ?_⟩
      rw [← hc, ← LX.out.cell (p := ⟨b, off + i, none⟩) hbl]
      exact World.cell?_of_block (h9 b (by omega) (by omega) (by omega))
  case h0 =>
    have hz : nv la / 2 ^ blen (nv la) = 0 := Nat.div_eq_of_lt (blen_le.1 (Nat.le_refl _))
    refine ⟨List.replicate la.length 0, .slice none 0 0, by simp, lim_zeros _, by rw [nv_zeros, hz]; simp, LR.out, L2.out, by rw [hz, Nat.zero_mod]; exact OwB.nil _ _, L0.out, L1.out, fun _ _ _ _ => rfl, Below.refl _ _⟩
  case hAx =>
    rintro k y a1 A B ⟨h1, h2, h3, h4⟩ z
    exact ⟨h1.kz z (by omega) (by omega) rfl, h2, by have := z.size; omega, h4⟩
  case hassign =>
    rintro ll k y W K hk h1 ⟨_, _, h2⟩ hlt hK
    have H2 := Lib.hid h2; clear h2
    gi_wp2
    refine hK _ _ (Ext.refl W) ⟨h1, H2.out, hlt, _, _, _, _, _, _, _, _, _, _, _, _, _, _, _, _, _, _, _, _, _, _, _, _, _, _, _, _, _, _, _, _, _, rfl⟩
  case hbody =>
    rintro ll k x a1 W hk ⟨⟨lq, vr, h1, h2, h3, h4, h5, h6, h7, h8, h9, h10⟩, hxe, hltW, t0, t1, t2, t8, t9, t10, t11, t12, t13, t14, t15, t16, t17, t18, t19, t20, t21, t22, t23, t24, t25, t26, t27, t28, t29, t30, t31, t32, t33, t34, t35, t36, t37, rfl⟩ _
    obtain ⟨ar, cr, rfl⟩ := h6.shape
    have hbit : bitN (nv la) k < 2 := Nat.mod_lt _ (by omega)
    have hx2 : 0 ≤ x ∧ x ≤ 1 := by omega
    have hxn : x.toNat = bitN (nv la) k := by omega
    have hsr := shr_bit (nv la) k
    obtain ⟨A, hA⟩ : ∃ A, A = nv la / 2 ^ (k + 1) := ⟨_, rfl⟩
    rw [← hA] at h3 h5 h6 hsr
    have hRlt : A % nv lb < nv lb := Nat.mod_lt _ hpos
    have hRlen : (lim (A % nv lb)).length ≤ 10000 := Nat.le_trans (lim_len_le.2 (Nat.lt_trans hRlt (nv_lt HLB.out))) hs2
    have hds := div_step A (nv lb) (bitN (nv la) k) hpos hbit
    rw [← hsr, ← hxn] at hds
    have hk32 : k / 32 < la.length := by
      have : blen (nv la) ≤ 32 * la.length := blen_le.2 (by rw [← pow_two]; exact nv_lt HLA.out)
      omega
    have hB0 : Bas w3 (.slice ab lb.length cb) w.heap.size (w.heap.size + 1 + 1 + 1) w3.heap.size la.length lq (.slice ar (lim (A % nv lb)).length cr) W W :=
      ⟨h4, h5, h7, h8, h9, h10, ⟨Nat.le_refl _, rfl, rfl⟩, hltW⟩
    have c1 := hB0.r.cell; have f1 := hB0.r.free; have l1 := hB0.r.lt
    have G0 := Lib.hid hB0; have G6 := Lib.hid h6; have Q1 := Lib.hid h1; have Q2 := Lib.hid h2; have Q3 := Lib.hid h3; have DS := Lib.hid hds
    have HXE := Lib.hid hxe; have HSR := Lib.hid hsr; have HAA := Lib.hid hA; have HXN := Lib.hid hxn
    clear hB0 h1 h2 h3 h4 h5 h6 h7 h8 h9 h10 hds hxe hsr hA hxn
    gi_wp2_with fail
    refine ⟨trivial, CallsIn.inRound ll ((callsIn_wide.2 (double_any (w3.heap.size + 2) _ _ x W G6.out (lim_lim _) (lim_noZ _) hx2 (by omega) (by omega))).mono ?_)⟩
    rintro e W1 ⟨⟨v1, rfl, ho1⟩, hb1⟩
    rw [nv_lim] at ho1
    obtain ⟨V, hV⟩ : ∃ V, V = 2 * (A % nv lb) + x.toNat := ⟨_, rfl⟩
    rw [← hV] at ho1
    obtain ⟨a1', c1', rfl⟩ := ho1.shape
    have hB1 := G0.out.below hb1 (by omega) (by omega)
    have hV2 : V < 2 * nv lb ∧ nv la / 2 ^ k / nv lb = 2 * (A / nv lb) + (if nv lb ≤ V then 1 else 0) ∧ nv la / 2 ^ k % nv lb = if nv lb ≤ V then V - nv lb else V := by rw [hV]; exact DS.out
    have hVlen : (lim V).length ≤ 20000 := by
      have h1 := nv_lt HLB.out
      have h2 : V < 4294967296 ^ (lb.length + 1) := by rw [Nat.pow_succ]; omega
      have := lim_len_le.2 h2
      omega
    have c2 := hB1.r.cell; have f2 := hB1.r.free; have l2 := hB1.r.lt; have c20 := hB1.b.cell; have l20 := hB1.b.lt
    have E1 := Lib.hid ho1; have B1 := Lib.hid hB1; have HV2 := Lib.hid hV2
    clear ho1 hb1 hB1 hV hV2 c1 f1 l1
    gi_wp2_with fail
    have hB2 := B1.out.setR (.slice a1' (lim V).length c1') (by omega) (by omega)
    have E2 := Lib.hid (E1.out.setBelow (p := ⟨w.heap.size + 1 + 1, 0, none⟩) (by dsimp only; omega) (.slice a1' (lim V).length c1'))
    have B2 := Lib.hid hB2
    clear hB2 c2 f2 l2 c20 l20
    by_cases hge : nv lb ≤ V
    · have hcd : decide (0 ≤ cmpN V (nv lb)) = true := by rw [cmpN_ge]; exact decide_eq_true hge
      have hcall := order_any _ _ (lim V) lb _ E2.out.rd (B2.out.rd HB.out LX.out (by omega) (by omega) (by omega)) (lim_lim _) HLB.out (lim_noZ _) HZB.out
      rw [nv_lim] at hcall
      obtain ⟨c, hc⟩ : ∃ c, c = cmpN V (nv lb) := ⟨_, rfl⟩
      rw [← hc] at hcall hcd
      clear hc
      refine ⟨trivial, CallsIn.inRound ll ((callsIn_wide.2 hcall).mono ?_)⟩
      clear hcall
      rintro e W3 ⟨rfl, hx3⟩
      have B3 := Lib.hid (B2.out.below (hx3.mono (by have := B2.out.lt; omega)) (by omega) (by omega)); have E3 := Lib.hid (E2.out.ext hx3)
      have c3 := B3.out.r.cell; have c4 := B3.out.b.cell; have l3 := B3.out.r.lt; have f3 := B3.out.r.free; have l4 := B3.out.b.lt
      clear hx3
      gi_wp2_with fail
      have hcall : Calls Try.prog 105 #[.slice a1' (lim V).length c1', .slice ab lb.length cb] W3 fun e w' => ∃ v', e = .returned v' ∧ OwB w' (w3.heap.size + 2) v' (lim (V - nv lb)) ∧ Below (w3.heap.size + 2) W3 w' := by
        obtain ⟨o, ho, hof⟩ := E3.out
        have hrd := B3.out.rd HB.out LX.out (by omega) (by omega) (by omega)
        have hrdA : RdA (fun b => o ≠ some b) W3 (.slice ab lb.length cb) lb := by
          obtain ⟨a, cap, e, h1, h2, h3⟩ := rdU HB.out
          refine ⟨a, cap, e, h1, h2, fun i hi => ?_⟩
          obtain ⟨b, off, e1, e2, _⟩ := h3 i hi
          obtain ⟨b', off', e1', e2', e3'⟩ := rdU_at hrd i hi
          injection e with e _ _
          rw [e, e1] at e1'
          injection e1' with e1'
          injection e1' with e4 e5
          subst e4; subst e5
          exact ⟨b, off, e1, fun e => by have := hof b e; have := LX.out.size; omega, e2', e3'⟩
        refine (subtract_any o _ _ (lim V) lb W3 ho (lim_lim _) hrdA HLB.out HZB.out (by rw [nv_lim]; exact hge)).mono ?_
        rintro e w' ⟨v', he, h1, h2⟩
        rw [nv_lim] at h1
        exact ⟨v', he, ⟨o, h1, hof⟩, h2.below (by have := B3.out.lt; omega) hof⟩
      refine ⟨trivial, CallsIn.inRound ll ((callsIn_wide.2 hcall).mono ?_)⟩
      clear hcall
      rintro e W4 ⟨v4, rfl, ho4, hb4⟩
      obtain ⟨a4, c4', rfl⟩ := ho4.shape
      have hB4 := B3.out.below hb4 (by omega) (by omega)
      have B5 := Lib.hid (hB4.setR (.slice a4 (lim (V - nv lb)).length c4') (by omega) (by omega))
      have E5 := Lib.hid (ho4.setBelow (p := ⟨w.heap.size + 1 + 1, 0, none⟩) (by dsimp only; omega) (.slice a4 (lim (V - nv lb)).length c4'))
      have k1 := hB4.r.cell; have k2 := hB4.r.free; have k3 := hB4.r.lt
      have hr5 := B5.out.row
      have k4 := B5.out.q.cell; have k5 := hr5.free; have k6 := hr5.lt
      have hzl := getD_lim Q2.out (k / 32)
      obtain ⟨z, hzz⟩ : ∃ z, z = lq.getD (k / 32) 0 := ⟨_, rfl⟩
      have k7 := hr5.getD (i := k / 32) (by have := Q1.out; omega) hzz
      have hlow := limb_low Q2.out (k := k) (by have := Q1.out; omega) (by rw [Q3.out]; exact Nat.mul_mod_left _ _)
      rw [← hzz] at hzl hlow
      have hor := or_bit z (k % 32) hzl (Nat.mod_lt _ (by omega)) hlow
      have hsb := nv_setBit (l := lq) (k := k) Q2.out (by have := Q1.out; omega)
      rw [← hzz] at hsb
      have q1 : (0 : Int) ≤ (k : Int) := by omega
      have q2 : (k : Int) / 32 < (la.length : Int) := by omega
      have q3 : (0 : Int) ≤ (k : Int) / 32 := by omega
      obtain ⟨t, ht⟩ : ∃ t : Int, t = ((z.toNat + 2 ^ (k % 32) : Nat) : Int) := ⟨_, rfl⟩
      have ht0 : 0 ≤ t ∧ t < 4294967296 := by have := hor.2; omega
      rw [← ht] at hsb
      have HOR := Lib.hid (hor.1.trans ht.symm); have HSB := Lib.hid hsb
      clear ht
      clear hzz hor hsb hlow hr5 hB4 ho4 hb4 c3 c4 l3 f3 l4
      gi_wp2_with fail
      generalize W4.setCell ⟨w.heap.size + 1 + 1, 0, none⟩ (.slice a4 (lim (V - nv lb)).length c4') = W5 at *
      have k40 := k4 0
      simp only [List.getElem?_toArray, List.getElem?_cons_zero] at k40
      have k50 := k5 (k / 32)
      have k60 : w.heap.size + 1 < W5.heap.size := by omega
      clear k1 k2 k3 k4 k5
      (refine wpIn_region_qxtE (by first | exact Or.inr ⟨_, rfl⟩ | exact Or.inl rfl) 10 0 0 (by kernel_rfl) (by kernel_rfl) (by kernel_rfl) (fun _ _ d _ _ h => by cases d <;> exact h) ?_; simp only [Nat.reduceAdd, Nat.reduceSub, List.take_succ_cons, List.take_zero, List.take_nil, List.drop_succ_cons, List.drop_zero]; (repeat (go_big_quiet_step ((fail)))); refine wpQuiet_nil ?_; (try dsimp only); (repeat (go_big_quiet_step (fail))); refine wpQuiet_nil ?_; (try dsimp only); (repeat (go_big_quiet_step (fail))); refine wpQuiet_nil ?_; rintro w1 ⟨⟨_, hx1⟩, rfl⟩; (try dsimp only); have hz1 := hx1.size; (try simp only [World.size_alloc, World.size_setCell, World.size_drew, size_drewN] at hz1); obtain ⟨hc1, hf1⟩ := hx1.old (B := w.heap.size) (by (try simp only [World.size_alloc, World.size_setCell, World.size_drew, size_drewN]); omega))
      have B6 := B5.out.below (hx1.mono (by have := B5.out.lt; omega)) (by omega) (by omega)
      have E6 := Lib.hid (E5.out.ext hx1)
      have m1 := B6.row.free (k / 32)
      have m2 := ((B5.out.row.ext hx1).gr (Gr.refl none w1) (by simp)).lt
      have m3 : w1.cell? ⟨w.heap.size + 1 + 1 + 1, k / 32, none⟩ = some (.int .u32 z) := (hx1.cell (p := ⟨w.heap.size + 1 + 1 + 1, k / 32, none⟩) (by dsimp only; omega)).trans k7
      have B7 := Lib.hid B6
      clear B6 hx1 hc1 hf1 k40 k50 k7
      rw [HOR.out]
      gi_wp2
      have B8 := B7.out.setQ (k / 32) t (by have := Q1.out; omega) (by omega) (by omega) (by omega) (by omega)
      obtain ⟨hv1, hv2, hv3⟩ := HV2.out
      rw [if_pos hge] at hv2 hv3
      refine ⟨B8.keep, lq.set (k / 32) t, .slice a4 (lim (V - nv lb)).length c4', (List.length_set).trans Q1.out, lim_set Q2.out _ ht0.1 ht0.2, ?_, B8.row, B8.r, ?_, B8.b, B8.q, B8.frame, B8.zero⟩
      · rw [HSB.out, Q3.out, hv2, Nat.pow_succ, alg1, Nat.add_mul, Nat.one_mul]
      · rw [hv3]; exact E6.out.setBelow (by dsimp only; omega) _
    · have hcd : decide (0 ≤ cmpN V (nv lb)) = false := by rw [cmpN_ge]; exact decide_eq_false hge
      have hcall := order_any _ _ (lim V) lb _ E2.out.rd (B2.out.rd HB.out LX.out (by omega) (by omega) (by omega)) (lim_lim _) HLB.out (lim_noZ _) HZB.out
      rw [nv_lim] at hcall
      obtain ⟨c, hc⟩ : ∃ c, c = cmpN V (nv lb) := ⟨_, rfl⟩
      rw [← hc] at hcall hcd
      clear hc
      refine ⟨trivial, CallsIn.inRound ll ((callsIn_wide.2 hcall).mono ?_)⟩
      clear hcall
      rintro e W3 ⟨rfl, hx3⟩
      have B3 := Lib.hid (B2.out.below (hx3.mono (by have := B2.out.lt; omega)) (by omega) (by omega)); have E3 := Lib.hid (E2.out.ext hx3)
      clear hx3
      gi_wp2
      obtain ⟨hv1, hv2, hv3⟩ := HV2.out
      rw [if_neg hge] at hv2 hv3
      refine ⟨B3.out.keep, lq, .slice a1' (lim V).length c1', Q1.out, Q2.out, ?_, B3.out.row, B3.out.r, ?_, B3.out.b, B3.out.q, B3.out.frame, B3.out.zero⟩
      · rw [Q3.out, hv2, Nat.pow_succ, alg1, Nat.add_zero]
      · rw [hv3]; exact E3.out
  case hdone =>
    rintro W ⟨lq, vr, h1, h2, h3, h4, h5, h6, h7, h8, h9, h10⟩ hD
    rw [Nat.pow_zero, Nat.div_one, Nat.mul_one] at h3
    rw [Nat.pow_zero, Nat.div_one] at h6
    obtain ⟨ar, cr, rfl⟩ := h6.shape
    have hmW : w3.heap.size < W.heap.size := (Array.getElem?_eq_some_iff.1 hD).1
    have r1 := h8.cell 0; have r2 := h5.cell 0; have r3 := h8.lt; have r4 := h5.lt; have r5 := h8.free 0; have r6 := h5.free 0; have r7 := h4.lt
    simp only [List.getElem?_toArray, List.getElem?_cons_zero] at r1 r2
    have hcall := fun X hx => trim_row (w.heap.size + 1 + 1 + 1) la.length lq X (RowU.ext h4 hx) h2
    rw [h1, h3] at hcall
    have HC := Lib.hid hcall; have G1 := Lib.hid h1; have G2 := Lib.hid h2; have G3 := Lib.hid h3; have G4 := Lib.hid h4; have G5 := Lib.hid h5; have G6 := Lib.hid h6; have G8 := Lib.hid h8; have G9 := Lib.hid h9; have G10 := Lib.hid h10; have GD := Lib.hid hD
    clear h1 h2 h3 h4 h5 h6 h7 h8 h9 h10 hD hcall
    gi_wp2_with fail
    have hmx : Try.prog.follows .mixedOrders = true := by kernel_rfl
    gi_region_with_o ((refine ⟨trivial, (callsIn_wide.2 (HC.out _ ((Ext.refl W).drew))).mono ?_⟩; rintro e w5 ⟨rfl, hrow5, hx5⟩; have x5 := ((Ext.refl W).drew).trans hx5; have n1 := (G5.out.ext x5).cell 0; simp only [List.getElem?_toArray, List.getElem?_cons_zero] at n1; have n2 := (G5.out.ext x5).free 0; have n3 := (G5.out.ext x5).lt; have n4 := (G8.out.ext x5).cell 0; have n5 := (G8.out.ext x5).free 0; have n6 := (G8.out.ext x5).lt; have HR5 := Lib.hid hrow5; have HX5 := Lib.hid x5; clear hrow5 hx5 x5; gi_wp2))
    all_goals
      obtain ⟨s1, hs1⟩ : ∃ s1, s1 = Value.slice (some ⟨w.heap.size + 1 + 1 + 1, 0, none⟩) (lim (nv la / nv lb)).length la.length := ⟨_, rfl⟩
      obtain ⟨s2, hs2⟩ : ∃ s2, s2 = Value.slice ar (lim (nv la % nv lb)).length cr := ⟨_, rfl⟩
      rw [← hs1, ← hs2]
      have p1 : Blk ((w5.setCell ⟨w.heap.size + 1, 0, none⟩ s1).setCell ⟨w.heap.size + 1 + 1, 0, none⟩ s2) (w.heap.size + 1) #[s1] 24 := by
        have := ((G8.out.ext HX5.out).set 0 s1).setOther (a := ⟨w.heap.size + 1 + 1, 0, none⟩) (by dsimp only; omega) s2; simpa using this
      have p2 : Blk ((w5.setCell ⟨w.heap.size + 1, 0, none⟩ s1).setCell ⟨w.heap.size + 1 + 1, 0, none⟩ s2) (w.heap.size + 1 + 1) #[s2] 24 := by
        have := ((G5.out.ext HX5.out).setOther (a := ⟨w.heap.size + 1, 0, none⟩) (by dsimp only; omega) s1).set 0 s2; simpa using this
      have p3 : RowU ((w5.setCell ⟨w.heap.size + 1, 0, none⟩ s1).setCell ⟨w.heap.size + 1 + 1, 0, none⟩ s2) (w.heap.size + 1 + 1 + 1) la.length (lim (nv la / nv lb)) := (HR5.out.setOther (by dsimp only; omega) s1).setOther (by dsimp only; omega) s2
      have p4 : OwB ((w5.setCell ⟨w.heap.size + 1, 0, none⟩ s1).setCell ⟨w.heap.size + 1 + 1, 0, none⟩ s2) (w3.heap.size + 2) s2 (lim (nv la % nv lb)) := by
        rw [hs2]; exact ((G6.out.ext HX5.out).setBelow (by dsimp only; omega) _).setBelow (by dsimp only; omega) _
      have p5 : ((w5.setCell ⟨w.heap.size + 1, 0, none⟩ s1).setCell ⟨w.heap.size + 1 + 1, 0, none⟩ s2).heap[w3.heap.size]? = some (.deferred (some [])) :=
        (Below.heap_setCell _ _ _ _ (by dsimp only; omega)).trans ((Below.heap_setCell _ _ _ _ (by dsimp only; omega)).trans ((HX5.out.block _ hmW).trans GD.out))
      have p6 : Ext w W := ⟨G10.out.os.trans LX.out.os, G10.out.tape.trans LX.out.tape, G10.out.output.trans LX.out.output, Nat.le_trans LX.out.size G10.out.size, fun i hi => (G9.out i (by omega) (by omega) (by omega)).trans (LX.out.block i hi)⟩
      have p7 : Ext w ((w5.setCell ⟨w.heap.size + 1, 0, none⟩ s1).setCell ⟨w.heap.size + 1 + 1, 0, none⟩ s2) := ((p6.trans HX5.out).set (by dsimp only; omega) s1).set (by dsimp only; omega) s2
      generalize (w5.setCell ⟨w.heap.size + 1, 0, none⟩ s1).setCell ⟨w.heap.size + 1 + 1, 0, none⟩ s2 = W7 at *
      have v1 := (p1.kz (Kz.put0 (m := w3.heap.size) _ (.deferred none)) (by omega)).cell 0
      have v2 := (p2.kz (Kz.put0 (m := w3.heap.size) _ (.deferred none)) (by omega)).cell 0
      simp only [List.getElem?_toArray, List.getElem?_cons_zero] at v1 v2
      have P3 := Lib.hid p3; have P4 := Lib.hid p4; have P5 := Lib.hid p5; have P7 := Lib.hid p7; have S1 := Lib.hid hs1
      clear n1 n2 n3 n4 n5 n6 r1 r2 r3 r4 r5 r6 r7 p1 p2 p3 p4 p5 p6 p7 hs1 hs2
      gi_wp2
      refine ⟨by simp, .inl ⟨_, _, rfl, run_takeDeferred P5.out, ?_⟩⟩
      refine ⟨.tuple #[s1, s2], by (simp only [results, Try.results106]; go_simp), ⟨s1, s2, rfl, w3.heap.size + 2, by omega, ⟨some (w.heap.size + 1 + 1 + 1), ?_, fun g hg => by cases hg; omega⟩, ?_⟩, P7.out.kz (Kz.put0 _ _) (by omega)⟩
      · rw [S1.out]; exact OwV.row (P3.out.kz (Kz.put0 (m := w3.heap.size) _ _) (.inl (by omega)))
      · obtain ⟨o, ho, hof⟩ := P4.out.kz (Kz.put0 (m := w3.heap.size) _ (.deferred none)) (by omega)
        exact ⟨o, ho, hof⟩
  case hstop =>
    rintro c k W hk h _
    exact h.elim

set_option maxHeartbeats 1000000 in
theorem divModA_any (v1 v2 : Value) (l1 l2 : List Int) (w : World) (h1 : RdI .u32 w v1 l1) (h2 : RdI .u32 w v2 l2) (hl1 : Lim l1) (hl2 : Lim l2) :
    Calls Try.prog 56 #[v1, v2] w fun e w' => Res4 w w' e (divS l1 l2) ∧ Ext w w' := by
  have H1 := Lib.hid h1; have H2 := Lib.hid h2
  obtain ⟨a1, c1, rfl, hc1, hm1, hr1⟩ := rdU h1
  obtain ⟨a2, c2, rfl, hc2, hm2, hr2⟩ := rdU h2
  have HL1 := Lib.hid hl1; have HL2 := Lib.hid hl2
  clear h1 h2 hr1 hr2 hl1 hl2
  by_cases hc : chk2 l1 l2 = 0
  · have HC := Lib.hid hc
    obtain ⟨⟨g1, z1⟩, g2, z2⟩ := chk2_0 hc
    have Z1 := Lib.hid z1; have Z2 := Lib.hid z2
    by_cases h0 : nv l2 = 0
    · have e1 := Lib.hid (show divS l1 l2 = ([], [], 14) by unfold divS; rw [if_pos hc, if_pos h0])
      obtain rfl : l2 = [] := List.length_eq_zero_iff.1 ((nv_zero_iff HL2.out z2).1 h0)
      clear hc z1 z2 h0
      go_enter Try.func56, Try.ntmps56
      go_wp2_with fail
      refine (check2_any _ _ l1 [] _ H1.out H2.out).mono ?_
      rintro e w1 ⟨rfl, hx1⟩
      rw [HC.out]
      have X1 := Lib.hid hx1; clear hx1
      go_wp2_with fail
      go_ret3
      exact ⟨Res4.mk (Two.nil _ _) e1.out, X1.out⟩
    · have e1 := Lib.hid (show divS l1 l2 = (lim (nv l1 / nv l2), lim (nv l1 % nv l2), 0) by unfold divS; rw [if_pos hc, if_neg h0])
      have hl0 : ((l2.length : Int) == 0) = false := by
        have : l2.length ≠ 0 := fun h => h0 ((nv_zero_iff HL2.out z2).2 h)
        simp; intro h; subst h; simp at this
      have hp := Lib.hid (show 0 < nv l2 by omega)
      clear hc z1 z2 h0
      go_enter Try.func56, Try.ntmps56
      go_wp2_with fail
      refine (check2_any _ _ l1 l2 _ H1.out H2.out).mono ?_
      rintro e w1 ⟨rfl, hx1⟩
      rw [HC.out]
      have X1 := Lib.hid hx1; clear hx1
      go_wp2_with fail
      refine (divideA_any _ _ l1 l2 _ (H1.out.ext X1.out) (H2.out.ext X1.out) HL1.out HL2.out Z1.out Z2.out (by omega) (by omega) hp.out).mono ?_
      rintro e w2 ⟨⟨v1, v2, rfl, n1⟩, hx2⟩
      have N1 := Lib.hid n1; have X2 := Lib.hid hx2
      clear n1 hx2
      go_wp2_with fail
      go_ret3
      exact ⟨Res4.mk (N1.out.from X1.out) e1.out, X1.out.trans X2.out⟩
  · have e1 := Lib.hid (show divS l1 l2 = ([], [], chk2 l1 l2) by unfold divS; rw [if_neg hc])
    have hc' : (chk2 l1 l2 != 0) = true := by simpa using hc
    obtain ⟨c, hcc⟩ : ∃ c, c = chk2 l1 l2 := ⟨_, rfl⟩
    have hk := fun W h1 h2 => check2_any (.slice a1 l1.length c1) (.slice a2 l2.length c2) l1 l2 W h1 h2
    rw [← hcc] at hk hc' e1
    have HK := Lib.hid hk
    clear hc hcc hk
    go_enter Try.func56, Try.ntmps56
    go_wp2_with fail
    refine (HK.out _ H1.out H2.out).mono ?_
    rintro e w1 ⟨rfl, hx1⟩
    have X1 := Lib.hid hx1; clear hx1
    go_wp2_with fail
    go_ret3
    exact ⟨Res4.mk (Two.nil _ _) e1.out, X1.out⟩

end Go.Proofs.Ytebdmmlniohhgaa
