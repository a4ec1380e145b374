/- Part of the proof of mat6_holds: what the row needs of RatSc. Conditions: as each theorem states. -/
import Derived.Test.YtbnalhmcbolngaaGreatSmRatSb
import Derived.Test.YtbnalhmcbolngaaGreatSmRatLs
namespace Go.Proofs.YtbnalhmcbolngaaGreat
set_option linter.unusedSimpArgs false
set_option linter.unusedVariables false
open Go.RowKit
theorem rdR_parts2 {w : World} {b x y : Value} {r : RR} (h : RdR w (.agg #[b, x, y]) r) : RdI .u32 w x r.num ∧ RdI .u32 w y r.den := by
  obtain ⟨vn, vd, e, h1, h2⟩ := h
  injection e with e
  simp only [Array.mk.injEq, List.cons.injEq, and_true] at e
  obtain ⟨_, rfl, rfl⟩ := e
  exact ⟨h1, h2⟩
set_option maxHeartbeats 4000000 in
theorem refProduct6_any (va vb : Value) (a b : Rat) (w : World) (ha : RdR w va (rep a)) (hb : RdR w vb (rep b)) (sa : lenR (rep a) 2000) (sb : lenR (rep b) 2000) :
    Calls Tryz.prog 77 #[va, vb] w fun e w' => (∃ v, e = .returned v ∧ NewR w w' v (rep (a * b))) ∧ Ext w w' := by
  obtain ⟨a1, a2, a3, a4, rfl, han, had⟩ := ha.parts
  obtain ⟨b1, b2, b3, b4, rfl, hbn, hbd⟩ := hb.parts
  have hda := fun W (x : Ext w W) => den_any _ (rep a) W (ha.ext x)
  have hdb := fun W (x : Ext w W) => den_any _ (rep b) W (hb.ext x)
  have za : nv (dl (rep a).den) ≠ 0 := by rw [nv_repd]; exact a.den_nz
  have zb : nv (dl (rep b).den) ≠ 0 := by rw [nv_repd]; exact b.den_nz
  have ga := limR_rep a; have gb := limR_rep b
  have ka : (dl (rep a).den).length ≤ 2000 := len_dl sa.2 (by omega)
  have kb : (dl (rep b).den).length ≤ 2000 := len_dl sb.2 (by omega)
  have kan := sa.1; have kbn := sb.1
  have gda := lim_dl ga.2; have gdb := lim_dl gb.2
  have gna := ga.1; have gnb := gb.1
  have hr := prod_rep a b
  obtain ⟨P, hP⟩ : ∃ P, P = nv (rep a).num * nv (rep b).num := ⟨_, rfl⟩
  obtain ⟨D, hD⟩ : ∃ D, D = nv (dl (rep a).den) * nv (dl (rep b).den) := ⟨_, rfl⟩
  have hD0 : D ≠ 0 := by rw [hD]; exact Nat.mul_ne_zero za zb
  have hPl : (lim P).length ≤ 4000 := by rw [hP]; exact len_prod gna gnb kan kbn
  have hDl : (lim D).length ≤ 4000 := by rw [hD]; exact len_prod gda gdb ka kb
  have hp1 := fun W v1 v2 h1 h2 => prod_at (w := W) (va := v1) (vb := v2) h1 h2 gna gnb (by omega) (by omega)
  have hp2 := fun W v1 v2 h1 h2 => prod_at (w := W) (va := v1) (vb := v2) h1 h2 gda gdb (by omega) (by omega)
  rw [← hP] at hp1 hr
  rw [← hD] at hp2 hr
  have hmk := fun W v1 v2 h1 h2 => make_any ((rep a).neg != (rep b).neg) v1 v2 (lim P) (lim D) W h1 h2 (lim_lim _) (lim_lim _) (lim_noZ _) (lim_noZ _) (by omega) (by omega) (by rw [nv_lim]; exact hD0)
  rw [nv_lim, nv_lim, hr] at hmk
  obtain ⟨R, hR⟩ : ∃ R, R = rep (a * b) := ⟨_, rfl⟩
  rw [← hR] at hmk ⊢
  obtain ⟨ra, hra⟩ : ∃ r, r = rep a := ⟨_, rfl⟩
  obtain ⟨rb, hrb⟩ : ∃ r, r = rep b := ⟨_, rfl⟩
  rw [← hra] at han had hda hp1 hp2 hmk ⊢
  rw [← hrb] at hbn hbd hdb hp1 hp2 hmk ⊢
  obtain ⟨s1, l1, l2⟩ := ra
  obtain ⟨s2, l3, l4⟩ := rb
  dsimp only at han had hbn hbd hda hdb hp1 hp2 hmk ⊢
  have NA := Lib.hid han; have NB := Lib.hid hbn; have HDA := Lib.hid hda; have HDB := Lib.hid hdb; have HP1 := Lib.hid hp1; have HP2 := Lib.hid hp2; have HMK := Lib.hid hmk
  clear han had hbn hbd hda hdb hp1 hp2 hmk hr hP hD hR hra hrb ha hb sa sb ga gb gda gdb gna gnb ka kb kan kbn za zb hD0 hPl hDl
  have bb0 := (((Blk.new w #[.bool s1, .slice a1 l1.length a2, .slice a3 l2.length a4] 33).alloc (.cells #[.bool s2, .slice b1 l3.length b2, .slice b3 l4.length b4] 33)).alloc (.cells #[.bool false, .slice none 0 0, .slice none 0 0] 33))
  have bb1 := ((Blk.new (w.alloc (.cells #[.bool s1, .slice a1 l1.length a2, .slice a3 l2.length a4] 33)) #[.bool s2, .slice b1 l3.length b2, .slice b3 l4.length b4] 33).alloc (.cells #[.bool false, .slice none 0 0, .slice none 0 0] 33))
  have bb2 := (Blk.new ((w.alloc (.cells #[.bool s1, .slice a1 l1.length a2, .slice a3 l2.length a4] 33)).alloc (.cells #[.bool s2, .slice b1 l3.length b2, .slice b3 l4.length b4] 33)) #[.bool false, .slice none 0 0, .slice none 0 0] 33)
  rw [World.size_alloc] at bb1
  rw [World.size_alloc, World.size_alloc] at bb2
  have x0 : Ext w (((w.alloc (.cells #[.bool s1, .slice a1 l1.length a2, .slice a3 l2.length a4] 33)).alloc (.cells #[.bool s2, .slice b1 l3.length b2, .slice b3 l4.length b4] 33)).alloc (.cells #[.bool false, .slice none 0 0, .slice none 0 0] 33)) := ((((Ext.refl w).alloc _).alloc _).alloc _)
  have A0 := Lib.hid bb0; have A1 := Lib.hid bb1; have A2 := Lib.hid bb2; have X := Lib.hid x0
  clear x0 bb0 bb1 bb2
  have NA := Lib.hid (NA.out.ext X.out); have NB := Lib.hid (NB.out.ext X.out)
  go_enter Tryz.func77, Tryz.ntmps77
  go_wp2_with fail
  refine wp_region_held_drew (S := (fun W => (Blk W w.heap.size #[.bool s1, .slice a1 l1.length a2, .slice a3 l2.length a4] 33 ∧ W.cell? ⟨w.heap.size, 0, none⟩ = some (.bool s1) ∧ W.cell? ⟨w.heap.size, 1, none⟩ = some (.slice a1 l1.length a2) ∧ W.cell? ⟨w.heap.size, 2, none⟩ = some (.slice a3 l2.length a4)) ∧ (Blk W (w.heap.size + 1) #[.bool s2, .slice b1 l3.length b2, .slice b3 l4.length b4] 33 ∧ W.cell? ⟨(w.heap.size + 1), 0, none⟩ = some (.bool s2) ∧ W.cell? ⟨(w.heap.size + 1), 1, none⟩ = some (.slice b1 l3.length b2) ∧ W.cell? ⟨(w.heap.size + 1), 2, none⟩ = some (.slice b3 l4.length b4)))) (by kernel_rfl) ?_ (fun hHeld => ?_)
  · exact ⟨Blk.s3 A0.out.drew, Blk.s3 A1.out.drew⟩
  refine wpAnyH_take (i := 0) (v := ?_) rfl (by kernel_rfl) (by kernel_rfl) (by kernel_rfl) (fun _ _ _ h => h) (Or.inl ⟨by rfl, ?_⟩) (by assumption) ?_
  rotate_left
  · (intro w hSw; (try dsimp only at hSw); go_simp; first | done | with_reducible rfl)
  (try simp only [Act.put, List.getElem_toArray, List.getElem_cons_zero, List.getElem_cons_succ, List.setIfInBounds_toArray, List.set_cons_zero, List.set_cons_succ])
  refine wpAnyH_take (i := 1) (v := ?_) rfl (by kernel_rfl) (by kernel_rfl) (by kernel_rfl) (fun _ _ _ h => h) (Or.inl ⟨by rfl, ?_⟩) (by assumption) ?_
  rotate_left
  · (intro w hSw; (try dsimp only at hSw); go_simp; first | done | with_reducible rfl)
  (try simp only [Act.put, List.getElem_toArray, List.getElem_cons_zero, List.getElem_cons_succ, List.setIfInBounds_toArray, List.set_cons_zero, List.set_cons_succ])
  refine wpAnyH_take (i := 2) (v := ?_) rfl (by kernel_rfl) (by kernel_rfl) (by kernel_rfl) (fun _ _ _ h => h) (Or.inl ⟨by rfl, ?_⟩) (by assumption) ?_
  rotate_left
  · (intro w hSw; (try dsimp only at hSw); go_simp; first | done | with_reducible rfl)
  (try simp only [Act.put, List.getElem_toArray, List.getElem_cons_zero, List.getElem_cons_succ, List.setIfInBounds_toArray, List.set_cons_zero, List.set_cons_succ])
  refine wpAnyH_take (i := 3) (v := ?_) rfl (by kernel_rfl) (by kernel_rfl) (by kernel_rfl) (fun _ _ _ h => h) (Or.inl ⟨by rfl, ?_⟩) (by assumption) ?_
  rotate_left
  · (intro w hSw; (try dsimp only at hSw); go_simp; first | done | with_reducible rfl)
  (try simp only [Act.put, List.getElem_toArray, List.getElem_cons_zero, List.getElem_cons_succ, List.setIfInBounds_toArray, List.set_cons_zero, List.set_cons_succ])
  refine wpAnyH_take (i := 4) (v := ?_) rfl (by kernel_rfl) (by kernel_rfl) (by kernel_rfl) (fun _ _ _ h => h) (Or.inl ⟨by rfl, ?_⟩) (by assumption) ?_
  rotate_left
  · (intro w hSw; (try dsimp only at hSw); go_simp; first | done | with_reducible rfl)
  (try simp only [Act.put, List.getElem_toArray, List.getElem_cons_zero, List.getElem_cons_succ, List.setIfInBounds_toArray, List.set_cons_zero, List.set_cons_succ])
  refine wpAnyH_take (i := 5) (v := ?_) rfl (by kernel_rfl) (by kernel_rfl) (by kernel_rfl) (fun _ _ _ h => h) (Or.inl ⟨by rfl, ?_⟩) (by assumption) ?_
  rotate_left
  · (intro w hSw; (try dsimp only at hSw); go_simp; first | done | with_reducible rfl)
  (try simp only [Act.put, List.getElem_toArray, List.getElem_cons_zero, List.getElem_cons_succ, List.setIfInBounds_toArray, List.set_cons_zero, List.set_cons_succ])
  refine wpAnyH_take (i := 6) (v := ?_) rfl (by kernel_rfl) (by kernel_rfl) (by kernel_rfl) (fun _ _ _ h => h) (Or.inl ⟨by rfl, ?_⟩) (by assumption) ?_
  rotate_left
  · (intro w hSw; (try dsimp only at hSw); go_simp; first | done | with_reducible rfl)
  (try simp only [Act.put, List.getElem_toArray, List.getElem_cons_zero, List.getElem_cons_succ, List.setIfInBounds_toArray, List.set_cons_zero, List.set_cons_succ])
  refine wpAnyH_take (i := 7) (v := ?_) rfl (by kernel_rfl) (by kernel_rfl) (by kernel_rfl) (fun _ _ _ h => h) (Or.inl ⟨by rfl, ?_⟩) (by assumption) ?_
  rotate_left
  · (intro w hSw; (try dsimp only at hSw); go_simp; first | done | with_reducible rfl)
  (try simp only [Act.put, List.getElem_toArray, List.getElem_cons_zero, List.getElem_cons_succ, List.setIfInBounds_toArray, List.set_cons_zero, List.set_cons_succ])
  refine wpAnyH_take (i := 8) (v := ?_) rfl (by kernel_rfl) (by kernel_rfl) (by kernel_rfl) (fun _ _ _ h => h) (Or.inl ⟨by rfl, ?_⟩) (by assumption) ?_
  rotate_left
  · (intro w hSw; (try dsimp only at hSw); go_simp; first | done | with_reducible rfl)
  (try simp only [Act.put, List.getElem_toArray, List.getElem_cons_zero, List.getElem_cons_succ, List.setIfInBounds_toArray, List.set_cons_zero, List.set_cons_succ])
  refine wpAnyH_take (i := 10) (v := ?_) rfl (by kernel_rfl) (by kernel_rfl) (by kernel_rfl) (fun _ _ _ h => h) (Or.inl ⟨by rfl, ?_⟩) (by assumption) ?_
  rotate_left
  · (intro w hSw; (try dsimp only at hSw); go_simp; first | done | with_reducible rfl)
  (try simp only [Act.put, List.getElem_toArray, List.getElem_cons_zero, List.getElem_cons_succ, List.setIfInBounds_toArray, List.set_cons_zero, List.set_cons_succ])
  refine wpAnyH_take (i := 12) (v := ?_) rfl (by kernel_rfl) (by kernel_rfl) (by kernel_rfl) (fun _ _ _ h => h) (Or.inl ⟨by rfl, ?_⟩) (by assumption) ?_
  rotate_left
  · (intro w hSw; (try dsimp only at hSw); go_simp; first | done | with_reducible rfl)
  (try simp only [Act.put, List.getElem_toArray, List.getElem_cons_zero, List.getElem_cons_succ, List.setIfInBounds_toArray, List.set_cons_zero, List.set_cons_succ])
  refine wpAnyH_ready (rs := [9]) (by kernel_rfl) (by simp) ?_
  refine AllReadyH.cons rfl (fun K hK => ?_) ?_
  rotate_left
  · exact AllReadyH.nil
  go_simp
  refine (HP1.out _ _ _ (NA.out.ext (by first | exact Ext.refl _ | exact (Ext.refl _).drew)) (NB.out.ext (by first | exact Ext.refl _ | exact (Ext.refl _).drew))).mono ?_
  rintro e w1 ⟨⟨v, rfl, nn⟩, hx⟩
  have hx := Ext.trans (show Ext (((w.alloc (.cells #[.bool s1, .slice a1 l1.length a2, .slice a3 l2.length a4] 33)).alloc (.cells #[.bool s2, .slice b1 l3.length b2, .slice b3 l4.length b4] 33)).alloc (.cells #[.bool false, .slice none 0 0, .slice none 0 0] 33)) _ from by first | exact Ext.refl _ | exact (Ext.refl _).drew) hx
  have NA := Lib.hid (NA.out.ext hx); have NB := Lib.hid (NB.out.ext hx); have A0 := Lib.hid (A0.out.ext hx); have A1 := Lib.hid (A1.out.ext hx); have A2 := Lib.hid (A2.out.ext hx); have X := Lib.hid (X.out.trans hx)
  obtain ⟨p1, p2, rfl⟩ := nn.shape
  have Np := Lib.hid nn.rd
  clear nn hx
  first | refine hK.out _ _ ?_ (fun hHeld => ?_) | (go_wp2_with fail; refine hK.out _ _ ?_ (fun hHeld => ?_))
  · exact ⟨Blk.s3 A0.out, Blk.s3 A1.out⟩
  clear hK K
  (try simp only [Act.put, List.getElem_toArray, List.getElem_cons_zero, List.getElem_cons_succ, List.setIfInBounds_toArray, List.set_cons_zero, List.set_cons_succ])
  refine wpAnyH_ready (rs := [11]) (by kernel_rfl) (by simp) ?_
  refine AllReadyH.cons rfl (fun K hK => ?_) ?_
  rotate_left
  · exact AllReadyH.nil
  go_simp
  refine (HDA.out _ (Ext.trans X.out (by first | exact Ext.refl _ | exact (Ext.refl _).drew))).mono ?_
  rintro e w2 ⟨⟨v, rfl, nn⟩, hx⟩
  have hx := Ext.trans (show Ext w1 _ from by first | exact Ext.refl _ | exact (Ext.refl _).drew) hx
  have NA := Lib.hid (NA.out.ext hx); have NB := Lib.hid (NB.out.ext hx); have A0 := Lib.hid (A0.out.ext hx); have A1 := Lib.hid (A1.out.ext hx); have A2 := Lib.hid (A2.out.ext hx); have Np := Lib.hid (Np.out.ext hx); have X := Lib.hid (X.out.trans hx)
  obtain ⟨u1, u2, rfl⟩ := rdU_shape nn
  have Nu := Lib.hid nn
  clear nn hx
  first | refine hK.out _ _ ?_ (fun hHeld => ?_) | (go_wp2_with fail; refine hK.out _ _ ?_ (fun hHeld => ?_))
  · exact ⟨Blk.s3 A0.out, Blk.s3 A1.out⟩
  clear hK K
  (try simp only [Act.put, List.getElem_toArray, List.getElem_cons_zero, List.getElem_cons_succ, List.setIfInBounds_toArray, List.set_cons_zero, List.set_cons_succ])
  refine wpAnyH_ready (rs := [13]) (by kernel_rfl) (by simp) ?_
  refine AllReadyH.cons rfl (fun K hK => ?_) ?_
  rotate_left
  · exact AllReadyH.nil
  go_simp
  refine (HDB.out _ (Ext.trans X.out (by first | exact Ext.refl _ | exact (Ext.refl _).drew))).mono ?_
  rintro e w3 ⟨⟨v, rfl, nn⟩, hx⟩
  have hx := Ext.trans (show Ext w2 _ from by first | exact Ext.refl _ | exact (Ext.refl _).drew) hx
  have NA := Lib.hid (NA.out.ext hx); have NB := Lib.hid (NB.out.ext hx); have A0 := Lib.hid (A0.out.ext hx); have A1 := Lib.hid (A1.out.ext hx); have A2 := Lib.hid (A2.out.ext hx); have Np := Lib.hid (Np.out.ext hx); have Nu := Lib.hid (Nu.out.ext hx); have X := Lib.hid (X.out.trans hx)
  obtain ⟨t1, t2, rfl⟩ := rdU_shape nn
  have Nt := Lib.hid nn
  clear nn hx
  first | refine hK.out _ _ ?_ (fun hHeld => ?_) | (go_wp2_with fail; refine hK.out _ _ ?_ (fun hHeld => ?_))
  · exact ⟨Blk.s3 A0.out, Blk.s3 A1.out⟩
  clear hK K
  (try simp only [Act.put, List.getElem_toArray, List.getElem_cons_zero, List.getElem_cons_succ, List.setIfInBounds_toArray, List.set_cons_zero, List.set_cons_succ])
  refine wpAnyH_ready (rs := [14]) (by kernel_rfl) (by simp) ?_
  refine AllReadyH.cons rfl (fun K hK => ?_) ?_
  rotate_left
  · exact AllReadyH.nil
  go_simp
  refine (HP2.out _ _ _ Nu.out Nt.out).mono ?_
  rintro e w4 ⟨⟨v, rfl, nn⟩, hx⟩
  have hx := Ext.trans (show Ext w3 _ from by first | exact Ext.refl _ | exact (Ext.refl _).drew) hx
  have NA := Lib.hid (NA.out.ext hx); have NB := Lib.hid (NB.out.ext hx); have A0 := Lib.hid (A0.out.ext hx); have A1 := Lib.hid (A1.out.ext hx); have A2 := Lib.hid (A2.out.ext hx); have Np := Lib.hid (Np.out.ext hx); have Nu := Lib.hid (Nu.out.ext hx); have Nt := Lib.hid (Nt.out.ext hx); have X := Lib.hid (X.out.trans hx)
  obtain ⟨d1, d2, rfl⟩ := nn.shape
  have Nd := Lib.hid nn.rd
  clear nn hx
  first | refine hK.out _ _ ?_ (fun hHeld => ?_) | (go_wp2_with fail; refine hK.out _ _ ?_ (fun hHeld => ?_))
  · exact ⟨Blk.s3 A0.out, Blk.s3 A1.out⟩
  clear hK K
  (try simp only [Act.put, List.getElem_toArray, List.getElem_cons_zero, List.getElem_cons_succ, List.setIfInBounds_toArray, List.set_cons_zero, List.set_cons_succ])
  have x6 := X.out
  refine wpAnyH_ready (rs := [15]) (by kernel_rfl) (by simp) ?_
  refine AllReadyH.cons rfl (fun K hK => ?_) ?_
  rotate_left
  · exact AllReadyH.nil
  go_simp
  refine (HMK.out _ _ _ (Np.out.ext (by first | exact Ext.refl _ | exact (Ext.refl _).drew)) Nd.out).mono ?_
  rintro e w5 ⟨⟨v, rfl, nn⟩, hx⟩
  have hx := Ext.trans (show Ext w4 _ from by first | exact Ext.refl _ | exact (Ext.refl _).drew) hx
  have NA := Lib.hid (NA.out.ext hx); have NB := Lib.hid (NB.out.ext hx); have A0 := Lib.hid (A0.out.ext hx); have A1 := Lib.hid (A1.out.ext hx); have A2 := Lib.hid (A2.out.ext hx); have Np := Lib.hid (Np.out.ext hx); have Nu := Lib.hid (Nu.out.ext hx); have Nt := Lib.hid (Nt.out.ext hx); have Nd := Lib.hid (Nd.out.ext hx); have X := Lib.hid (X.out.trans hx)
  obtain ⟨r1, r2, r3, r4, rfl⟩ := nn.shape
  have Nr := Lib.hid nn.rd
  have Or := Lib.hid (nn.from (x6))
  clear nn hx
  first | refine hK.out _ _ ?_ (fun hHeld => ?_) | (go_wp2_with fail; refine hK.out _ _ ?_ (fun hHeld => ?_))
  · exact ⟨Blk.s3 A0.out, Blk.s3 A1.out⟩
  clear hK K
  (try simp only [Act.put, List.getElem_toArray, List.getElem_cons_zero, List.getElem_cons_succ, List.setIfInBounds_toArray, List.set_cons_zero, List.set_cons_succ])
  have q2 := A2.out.cell; have f2 := A2.out.free; have l2' := A2.out.lt
  refine wpAnyH_ready (rs := [16]) (by kernel_rfl) (by simp) ?_
  refine AllReadyH.cons rfl (fun K hK => ?_) ?_
  rotate_left
  · exact AllReadyH.nil
  go_simp
  first | refine hK.out _ _ ?_ (fun hHeld => ?_) | (go_wp2_with fail; refine hK.out _ _ ?_ (fun hHeld => ?_))
  · ((try dsimp only); (refine ⟨Blk.s3 ?_, Blk.s3 ?_⟩ <;> (repeat (first | exact A0.out | exact A1.out | refine Blk.setOther ?_ (by dsimp only; omega) _ | refine Blk.alloc ?_ _ | refine Blk.drew ?_))))
  clear hK K
  (try simp only [Act.put, List.getElem_toArray, List.getElem_cons_zero, List.getElem_cons_succ, List.setIfInBounds_toArray, List.set_cons_zero, List.set_cons_succ])
  refine wpAnyH_done (by kernel_rfl) ?_ _
  go_wp2_with fail
  refine bodyPost_ret (v := .agg #[.bool R.neg, .slice r1 R.num.length r2, .slice r3 R.den.length r4]) (by simp only [results, Tryz.results77]; go_simp) rfl ⟨⟨_, rfl, NewR.set3 Or.out A2.out (by decide) _ _ _⟩, ?_⟩
  have := X.out; (repeat (first | (with_reducible exact Ext.refl _) | (with_reducible assumption) | (with_reducible refine Ext.alloc ?_ _) | ((with_reducible refine Ext.setp ?_ ?_); focus (dsimp only; omega)) | (with_reducible refine Ext.drew ?_) | (with_reducible refine Ext.drewN ?_ _) | (with_reducible refine Ext.trans ?_ (by assumption))))
set_option maxHeartbeats 2000000 in
theorem refNegR_any (va : Value) (ra : RR) (w : World) (ha : RdR w va ra) (la : LimR ra) :
    Calls Tryz.prog 50 #[va] w fun e w' => ResR w w' e (negR ra) ∧ Ext w w' := by
  have hck := fun W (x : Ext w W) => refCheckR_any va ra W (ha.ext x) la
  have HA := Lib.hid ha
  obtain ⟨a1, a2, a3, a4, rfl⟩ := ha.shape
  by_cases hc : chkR ra = 0
  · have eo : negR ra = (minR ra, 0) := by unfold negR; rw [if_pos hc, ← minR_rep, (valid_rep la hc).2.2]
    have hmi := fun W (x : Ext w W) => refMinus6_any _ ra W (HA.out.ext x) (lenR_mono (valid_lenR la hc) (by decide))
    rw [hc] at hck
    obtain ⟨R, hR⟩ : ∃ R, R = minR ra := ⟨_, rfl⟩
    rw [← hR] at eo hmi
    have HCK := Lib.hid hck; have EO := Lib.hid eo; have HMI := Lib.hid hmi
    clear hck eo hmi hR hc ha la
    have bb0 := ((Blk.new w #[.bool ra.neg, .slice a1 ra.num.length a2, .slice a3 ra.den.length a4] 33).alloc (.cells #[.bool false, .slice none 0 0, .slice none 0 0] 33))
    have bb1 := (Blk.new (w.alloc (.cells #[.bool ra.neg, .slice a1 ra.num.length a2, .slice a3 ra.den.length a4] 33)) #[.bool false, .slice none 0 0, .slice none 0 0] 33)
    rw [World.size_alloc] at bb1
    have x0 : Ext w ((w.alloc (.cells #[.bool ra.neg, .slice a1 ra.num.length a2, .slice a3 ra.den.length a4] 33)).alloc (.cells #[.bool false, .slice none 0 0, .slice none 0 0] 33)) := (((Ext.refl w).alloc _).alloc _)
    have A0 := Lib.hid bb0; have A1 := Lib.hid bb1; have X := Lib.hid x0
    clear x0 bb0 bb1
    go_enter Tryz.func50, Tryz.ntmps50
    have qA0 := A0.out.cell; have fA0 := A0.out.free; have lA0 := A0.out.lt
    go_wp2_with fail
    refine (HCK.out _ X.out).mono ?_
    rintro e w1 ⟨rfl, hx⟩
    clear qA0 fA0 lA0
    have A0 := Lib.hid (A0.out.ext hx); have A1 := Lib.hid (A1.out.ext hx); have X := Lib.hid (X.out.trans hx)
    clear hx
    have qA0 := A0.out.cell; have fA0 := A0.out.free; have lA0 := A0.out.lt
    have xo := X.out
    go_wp2_with fail
    refine (HMI.out _ X.out).mono ?_
    rintro e w2 ⟨⟨v, rfl, nn⟩, hx⟩
    clear qA0 fA0 lA0
    have A0 := Lib.hid (A0.out.ext hx); have A1 := Lib.hid (A1.out.ext hx); have X := Lib.hid (X.out.trans hx)
    obtain ⟨n1, n2, n3, n4, rfl⟩ := nn.shape
    have Nn := Lib.hid nn.rd
    have On := Lib.hid (nn.from xo)
    clear xo
    clear nn hx
    have qA1 := A1.out.cell; have fA1 := A1.out.free; have lA1 := A1.out.lt
    go_wp2_with fail
    refine bodyPost_ret (v := .tuple #[.agg #[.bool R.neg, .slice n1 R.num.length n2, .slice n3 R.den.length n4], .int .i64 0]) (by simp only [results, Tryz.results50]; go_simp) rfl ⟨ResR.mk (NewR.set3 On.out A1.out (by decide) _ _ _) EO.out, ?_⟩
    have := X.out; (repeat (first | (with_reducible exact Ext.refl _) | (with_reducible assumption) | (with_reducible refine Ext.alloc ?_ _) | ((with_reducible refine Ext.setp ?_ ?_); focus (dsimp only; omega)) | (with_reducible refine Ext.drew ?_) | (with_reducible refine Ext.drewN ?_ _) | (with_reducible refine Ext.trans ?_ (by assumption))))
  · have eo : negR ra = (zR, chkR ra) := by unfold negR; rw [if_neg hc]
    obtain ⟨cc, hcc⟩ : ∃ cc, cc = chkR ra := ⟨_, rfl⟩
    rw [← hcc] at eo hck hc
    have hcb' : (cc != 0) = true := by simpa using hc
    have HCK := Lib.hid hck; have EO := Lib.hid eo
    clear hck eo hcc hc ha la
    have bb0 := ((Blk.new w #[.bool ra.neg, .slice a1 ra.num.length a2, .slice a3 ra.den.length a4] 33).alloc (.cells #[.bool false, .slice none 0 0, .slice none 0 0] 33))
    have bb1 := (Blk.new (w.alloc (.cells #[.bool ra.neg, .slice a1 ra.num.length a2, .slice a3 ra.den.length a4] 33)) #[.bool false, .slice none 0 0, .slice none 0 0] 33)
    rw [World.size_alloc] at bb1
    have x0 : Ext w ((w.alloc (.cells #[.bool ra.neg, .slice a1 ra.num.length a2, .slice a3 ra.den.length a4] 33)).alloc (.cells #[.bool false, .slice none 0 0, .slice none 0 0] 33)) := (((Ext.refl w).alloc _).alloc _)
    have A0 := Lib.hid bb0; have A1 := Lib.hid bb1; have X := Lib.hid x0
    clear x0 bb0 bb1
    go_enter Tryz.func50, Tryz.ntmps50
    have qA0 := A0.out.cell; have fA0 := A0.out.free; have lA0 := A0.out.lt
    go_wp2_with fail
    refine (HCK.out _ X.out).mono ?_
    rintro e w1 ⟨rfl, hx⟩
    clear qA0 fA0 lA0
    have A0 := Lib.hid (A0.out.ext hx); have A1 := Lib.hid (A1.out.ext hx); have X := Lib.hid (X.out.trans hx)
    clear hx
    have qA1 := A1.out.cell; have fA1 := A1.out.free; have lA1 := A1.out.lt
    go_wp2_with fail
    refine bodyPost_ret (v := .tuple #[.agg #[.bool false, .slice none 0 0, .slice none 0 0], .int .i64 cc]) (by simp only [results, Tryz.results50]; go_simp) rfl ⟨ResR.mk (NewR.zero _ _) EO.out, ?_⟩
    have := X.out; (repeat (first | (with_reducible exact Ext.refl _) | (with_reducible assumption) | (with_reducible refine Ext.alloc ?_ _) | ((with_reducible refine Ext.setp ?_ ?_); focus (dsimp only; omega)) | (with_reducible refine Ext.drew ?_) | (with_reducible refine Ext.drewN ?_ _) | (with_reducible refine Ext.trans ?_ (by assumption))))
set_option maxHeartbeats 2000000 in
theorem refAbsR_any (va : Value) (ra : RR) (w : World) (ha : RdR w va ra) (la : LimR ra) :
    Calls Tryz.prog 51 #[va] w fun e w' => ResR w w' e (absR ra) ∧ Ext w w' := by
  have hck := fun W (x : Ext w W) => refCheckR_any va ra W (ha.ext x) la
  have HA := Lib.hid ha
  obtain ⟨a1, a2, a3, a4, rfl⟩ := ha.shape
  by_cases hc : chkR ra = 0
  · have eo : absR ra = (⟨false, ra.num, ra.den⟩, 0) := by unfold absR; rw [if_pos hc]
    have hv := valid_lenR la hc
    have hcp := fun W (x : Ext w W) => copyRat_any _ ra W (HA.out.ext x) ⟨Nat.le_trans hv.1 (by decide), Nat.le_trans hv.2 (by decide)⟩
    rw [hc] at hck
    have HCK := Lib.hid hck; have EO := Lib.hid eo; have HCP := Lib.hid hcp
    clear hck eo hcp hc ha la hv
    have bb0 := ((Blk.new w #[.bool ra.neg, .slice a1 ra.num.length a2, .slice a3 ra.den.length a4] 33).alloc (.cells #[.bool false, .slice none 0 0, .slice none 0 0] 33))
    have bb1 := (Blk.new (w.alloc (.cells #[.bool ra.neg, .slice a1 ra.num.length a2, .slice a3 ra.den.length a4] 33)) #[.bool false, .slice none 0 0, .slice none 0 0] 33)
    rw [World.size_alloc] at bb1
    have x0 : Ext w ((w.alloc (.cells #[.bool ra.neg, .slice a1 ra.num.length a2, .slice a3 ra.den.length a4] 33)).alloc (.cells #[.bool false, .slice none 0 0, .slice none 0 0] 33)) := (((Ext.refl w).alloc _).alloc _)
    have A0 := Lib.hid bb0; have A1 := Lib.hid bb1; have X := Lib.hid x0
    clear x0 bb0 bb1
    go_enter Tryz.func51, Tryz.ntmps51
    have qA0 := A0.out.cell; have fA0 := A0.out.free; have lA0 := A0.out.lt
    go_wp2_with fail
    refine (HCK.out _ X.out).mono ?_
    rintro e w1 ⟨rfl, hx⟩
    clear qA0 fA0 lA0
    have A0 := Lib.hid (A0.out.ext hx); have A1 := Lib.hid (A1.out.ext hx); have X := Lib.hid (X.out.trans hx)
    clear hx
    have qA0 := A0.out.cell; have fA0 := A0.out.free; have lA0 := A0.out.lt
    have xo := X.out
    go_wp2_with fail
    refine (HCP.out _ X.out).mono ?_
    rintro e w2 ⟨⟨v, rfl, nn⟩, hx⟩
    clear qA0 fA0 lA0
    have A0 := Lib.hid (A0.out.ext hx); have A1 := Lib.hid (A1.out.ext hx); have X := Lib.hid (X.out.trans hx)
    obtain ⟨n1, n2, n3, n4, rfl⟩ := nn.shape
    have Nn := Lib.hid nn.rd
    have On := Lib.hid (nn.from xo)
    clear xo
    clear nn hx
    have qA1 := A1.out.cell; have fA1 := A1.out.free; have lA1 := A1.out.lt
    go_wp2_with fail
    have hn2 : NewR w w2 (.agg #[.bool false, .slice n1 ra.num.length n2, .slice n3 ra.den.length n4]) ⟨false, ra.num, ra.den⟩ := by
      obtain ⟨vn, vd, e, h1, h2⟩ := On.out
      injection e with e
      simp only [Array.mk.injEq, List.cons.injEq, and_true, true_and] at e
      obtain ⟨rfl, rfl⟩ := e
      exact ⟨_, _, rfl, h1, h2⟩
    have H2 := Lib.hid hn2
    refine bodyPost_ret (v := .tuple #[.agg #[.bool false, .slice n1 ra.num.length n2, .slice n3 ra.den.length n4], .int .i64 0]) (by simp only [results, Tryz.results51]; go_simp) rfl ⟨ResR.mk (r := absR ra) ?_ EO.out, ?_⟩
    · first
      | exact (NewR.set3 H2.out A1.out (by decide) _ _ _).ext ((Ext.refl _).alloc _)
      | exact NewR.set3 (H2.out.ext ((Ext.refl _).alloc _)) (A1.out.alloc _) (by decide) _ _ _
    · have := X.out; (repeat (first | (with_reducible exact Ext.refl _) | (with_reducible assumption) | (with_reducible refine Ext.alloc ?_ _) | ((with_reducible refine Ext.setp ?_ ?_); focus (dsimp only; omega)) | (with_reducible refine Ext.drew ?_) | (with_reducible refine Ext.drewN ?_ _) | (with_reducible refine Ext.trans ?_ (by assumption))))
  · have eo : absR ra = (zR, chkR ra) := by unfold absR; rw [if_neg hc]
    obtain ⟨cc, hcc⟩ : ∃ cc, cc = chkR ra := ⟨_, rfl⟩
    rw [← hcc] at eo hck hc
    have hcb' : (cc != 0) = true := by simpa using hc
    have HCK := Lib.hid hck; have EO := Lib.hid eo
    clear hck eo hcc hc ha la
    have bb0 := ((Blk.new w #[.bool ra.neg, .slice a1 ra.num.length a2, .slice a3 ra.den.length a4] 33).alloc (.cells #[.bool false, .slice none 0 0, .slice none 0 0] 33))
    have bb1 := (Blk.new (w.alloc (.cells #[.bool ra.neg, .slice a1 ra.num.length a2, .slice a3 ra.den.length a4] 33)) #[.bool false, .slice none 0 0, .slice none 0 0] 33)
    rw [World.size_alloc] at bb1
    have x0 : Ext w ((w.alloc (.cells #[.bool ra.neg, .slice a1 ra.num.length a2, .slice a3 ra.den.length a4] 33)).alloc (.cells #[.bool false, .slice none 0 0, .slice none 0 0] 33)) := (((Ext.refl w).alloc _).alloc _)
    have A0 := Lib.hid bb0; have A1 := Lib.hid bb1; have X := Lib.hid x0
    clear x0 bb0 bb1
    go_enter Tryz.func51, Tryz.ntmps51
    have qA0 := A0.out.cell; have fA0 := A0.out.free; have lA0 := A0.out.lt
    go_wp2_with fail
    refine (HCK.out _ X.out).mono ?_
    rintro e w1 ⟨rfl, hx⟩
    clear qA0 fA0 lA0
    have A0 := Lib.hid (A0.out.ext hx); have A1 := Lib.hid (A1.out.ext hx); have X := Lib.hid (X.out.trans hx)
    clear hx
    have qA1 := A1.out.cell; have fA1 := A1.out.free; have lA1 := A1.out.lt
    go_wp2_with fail
    refine bodyPost_ret (v := .tuple #[.agg #[.bool false, .slice none 0 0, .slice none 0 0], .int .i64 cc]) (by simp only [results, Tryz.results51]; go_simp) rfl ⟨ResR.mk (NewR.zero _ _) EO.out, ?_⟩
    have := X.out; (repeat (first | (with_reducible exact Ext.refl _) | (with_reducible assumption) | (with_reducible refine Ext.alloc ?_ _) | ((with_reducible refine Ext.setp ?_ ?_); focus (dsimp only; omega)) | (with_reducible refine Ext.drew ?_) | (with_reducible refine Ext.drewN ?_ _) | (with_reducible refine Ext.trans ?_ (by assumption))))
set_option maxHeartbeats 4000000 in
theorem refAddR_any (va vb : Value) (ra rb : RR) (w : World) (ha : RdR w va ra) (hb : RdR w vb rb) (la : LimR ra) (lb : LimR rb) :
    Calls Tryz.prog 52 #[va, vb] w fun e w' => ResR w w' e (addR ra rb) ∧ Ext w w' := by
  have hwr := fun W (x : Ext w W) => refWrong6_any va vb ra rb W (ha.ext x) (hb.ext x) la lb
  have HA := Lib.hid ha; have HB := Lib.hid hb
  obtain ⟨a1, a2, a3, a4, rfl⟩ := ha.shape
  obtain ⟨b1, b2, b3, b4, rfl⟩ := hb.shape
  by_cases hc : chkR2 ra rb = 0
  · obtain ⟨hca, hcb⟩ := chkR2_0 hc
    have ea := valid_eq la hca; have eb := valid_eq lb hcb
    have sa := lenR_mono (valid_lenR la hca) (show 128 ≤ 2000 by decide); have sb := lenR_mono (valid_lenR lb hcb) (show 128 ≤ 2000 by decide)
    have hop := fun W (x : Ext w W) => refSum6_any _ _ (qv ra) (qv rb) W (by rw [← ea]; exact HA.out.ext x) (by rw [← eb]; exact HB.out.ext x) (by rw [← ea]; exact sa) (by rw [← eb]; exact sb)
    have eo : addR ra rb = fitR (qv ra + qv rb) := by unfold addR opR; rw [if_pos hc]
    have hft := fun W v h x => refFit6_any v (qv ra + qv rb) w W h x
    rw [hc] at hwr
    obtain ⟨R, hR⟩ : ∃ R, R = rep (qv ra + qv rb) := ⟨_, rfl⟩
    obtain ⟨F, hF⟩ : ∃ F, F = fitR (qv ra + qv rb) := ⟨_, rfl⟩
    rw [← hR] at hft hop
    rw [← hF] at hft eo
    obtain ⟨F1, F2⟩ := F
    have HWR := Lib.hid hwr; have EO := Lib.hid eo; have HOP := Lib.hid hop; have HFT := Lib.hid hft
    clear hwr eo hop hft hR hF hc hca hcb ha hb la lb ea eb sa sb
    have bb0 := (((Blk.new w #[.bool ra.neg, .slice a1 ra.num.length a2, .slice a3 ra.den.length a4] 33).alloc (.cells #[.bool rb.neg, .slice b1 rb.num.length b2, .slice b3 rb.den.length b4] 33)).alloc (.cells #[.bool false, .slice none 0 0, .slice none 0 0] 33))
    have bb1 := ((Blk.new (w.alloc (.cells #[.bool ra.neg, .slice a1 ra.num.length a2, .slice a3 ra.den.length a4] 33)) #[.bool rb.neg, .slice b1 rb.num.length b2, .slice b3 rb.den.length b4] 33).alloc (.cells #[.bool false, .slice none 0 0, .slice none 0 0] 33))
    have bb2 := (Blk.new ((w.alloc (.cells #[.bool ra.neg, .slice a1 ra.num.length a2, .slice a3 ra.den.length a4] 33)).alloc (.cells #[.bool rb.neg, .slice b1 rb.num.length b2, .slice b3 rb.den.length b4] 33)) #[.bool false, .slice none 0 0, .slice none 0 0] 33)
    rw [World.size_alloc] at bb1
    rw [World.size_alloc, World.size_alloc] at bb2
    have x0 : Ext w (((w.alloc (.cells #[.bool ra.neg, .slice a1 ra.num.length a2, .slice a3 ra.den.length a4] 33)).alloc (.cells #[.bool rb.neg, .slice b1 rb.num.length b2, .slice b3 rb.den.length b4] 33)).alloc (.cells #[.bool false, .slice none 0 0, .slice none 0 0] 33)) := ((((Ext.refl w).alloc _).alloc _).alloc _)
    have A0 := Lib.hid bb0; have A1 := Lib.hid bb1; have A2 := Lib.hid bb2; have X := Lib.hid x0
    clear x0 bb0 bb1 bb2
    go_enter Tryz.func52, Tryz.ntmps52
    have qA0 := A0.out.cell; have fA0 := A0.out.free; have lA0 := A0.out.lt; have qA1 := A1.out.cell; have fA1 := A1.out.free; have lA1 := A1.out.lt
    go_wp2_with fail
    refine (HWR.out _ X.out).mono ?_
    rintro e w1 ⟨rfl, hx⟩
    clear qA0 fA0 lA0 qA1 fA1 lA1
    have A0 := Lib.hid (A0.out.ext hx); have A1 := Lib.hid (A1.out.ext hx); have A2 := Lib.hid (A2.out.ext hx); have X := Lib.hid (X.out.trans hx)
    clear hx
    have qA0 := A0.out.cell; have fA0 := A0.out.free; have lA0 := A0.out.lt; have qA1 := A1.out.cell; have fA1 := A1.out.free; have lA1 := A1.out.lt
    have xo := X.out
    go_wp2_with fail
    refine (HOP.out _ X.out).mono ?_
    rintro e w2 ⟨⟨v, rfl, nn⟩, hx⟩
    clear qA0 fA0 lA0 qA1 fA1 lA1
    have A0 := Lib.hid (A0.out.ext hx); have A1 := Lib.hid (A1.out.ext hx); have A2 := Lib.hid (A2.out.ext hx); have X := Lib.hid (X.out.trans hx)
    obtain ⟨n1, n2, n3, n4, rfl⟩ := nn.shape
    have Nn := Lib.hid nn.rd
    have On := Lib.hid (nn.from xo)
    clear xo
    clear nn hx
    go_wp2_with fail
    refine (HFT.out _ _ On.out X.out).mono ?_
    rintro e w3 ⟨⟨v, rfl, nn⟩, hx⟩
    have A0 := Lib.hid (A0.out.ext hx); have A1 := Lib.hid (A1.out.ext hx); have A2 := Lib.hid (A2.out.ext hx); have Nn := Lib.hid (Nn.out.ext hx); have On := Lib.hid (On.out.ext hx); have X := Lib.hid (X.out.trans hx)
    dsimp only at nn ⊢
    obtain ⟨f1, f2, f3, f4, rfl⟩ := nn.shape
    have Of := Lib.hid nn
    clear nn hx
    have qA2 := A2.out.cell; have fA2 := A2.out.free; have lA2 := A2.out.lt
    go_wp2_with fail
    refine bodyPost_ret (v := .tuple #[.agg #[.bool F1.neg, .slice f1 F1.num.length f2, .slice f3 F1.den.length f4], .int .i64 F2]) (by simp only [results, Tryz.results52]; go_simp) rfl ⟨ResR.mk (NewR.set3 Of.out A2.out (by decide) _ _ _) EO.out, ?_⟩
    have := X.out; (repeat (first | (with_reducible exact Ext.refl _) | (with_reducible assumption) | (with_reducible refine Ext.alloc ?_ _) | ((with_reducible refine Ext.setp ?_ ?_); focus (dsimp only; omega)) | (with_reducible refine Ext.drew ?_) | (with_reducible refine Ext.drewN ?_ _) | (with_reducible refine Ext.trans ?_ (by assumption))))
  · have eo : addR ra rb = (zR, chkR2 ra rb) := by unfold addR opR; rw [if_neg hc]
    obtain ⟨cc, hcc⟩ : ∃ cc, cc = chkR2 ra rb := ⟨_, rfl⟩
    rw [← hcc] at eo hwr hc
    have hcb' : (cc != 0) = true := by simpa using hc
    have HWR := Lib.hid hwr; have EO := Lib.hid eo
    clear hwr eo hcc hc ha hb la lb
    have bb0 := (((Blk.new w #[.bool ra.neg, .slice a1 ra.num.length a2, .slice a3 ra.den.length a4] 33).alloc (.cells #[.bool rb.neg, .slice b1 rb.num.length b2, .slice b3 rb.den.length b4] 33)).alloc (.cells #[.bool false, .slice none 0 0, .slice none 0 0] 33))
    have bb1 := ((Blk.new (w.alloc (.cells #[.bool ra.neg, .slice a1 ra.num.length a2, .slice a3 ra.den.length a4] 33)) #[.bool rb.neg, .slice b1 rb.num.length b2, .slice b3 rb.den.length b4] 33).alloc (.cells #[.bool false, .slice none 0 0, .slice none 0 0] 33))
    have bb2 := (Blk.new ((w.alloc (.cells #[.bool ra.neg, .slice a1 ra.num.length a2, .slice a3 ra.den.length a4] 33)).alloc (.cells #[.bool rb.neg, .slice b1 rb.num.length b2, .slice b3 rb.den.length b4] 33)) #[.bool false, .slice none 0 0, .slice none 0 0] 33)
    rw [World.size_alloc] at bb1
    rw [World.size_alloc, World.size_alloc] at bb2
    have x0 : Ext w (((w.alloc (.cells #[.bool ra.neg, .slice a1 ra.num.length a2, .slice a3 ra.den.length a4] 33)).alloc (.cells #[.bool rb.neg, .slice b1 rb.num.length b2, .slice b3 rb.den.length b4] 33)).alloc (.cells #[.bool false, .slice none 0 0, .slice none 0 0] 33)) := ((((Ext.refl w).alloc _).alloc _).alloc _)
    have A0 := Lib.hid bb0; have A1 := Lib.hid bb1; have A2 := Lib.hid bb2; have X := Lib.hid x0
    clear x0 bb0 bb1 bb2
    go_enter Tryz.func52, Tryz.ntmps52
    have qA0 := A0.out.cell; have fA0 := A0.out.free; have lA0 := A0.out.lt; have qA1 := A1.out.cell; have fA1 := A1.out.free; have lA1 := A1.out.lt
    go_wp2_with fail
    refine (HWR.out _ X.out).mono ?_
    rintro e w1 ⟨rfl, hx⟩
    clear qA0 fA0 lA0 qA1 fA1 lA1
    have A0 := Lib.hid (A0.out.ext hx); have A1 := Lib.hid (A1.out.ext hx); have A2 := Lib.hid (A2.out.ext hx); have X := Lib.hid (X.out.trans hx)
    clear hx
    have qA2 := A2.out.cell; have fA2 := A2.out.free; have lA2 := A2.out.lt
    go_wp2_with fail
    refine bodyPost_ret (v := .tuple #[.agg #[.bool false, .slice none 0 0, .slice none 0 0], .int .i64 cc]) (by simp only [results, Tryz.results52]; go_simp) rfl ⟨ResR.mk (NewR.zero _ _) EO.out, ?_⟩
    have := X.out; (repeat (first | (with_reducible exact Ext.refl _) | (with_reducible assumption) | (with_reducible refine Ext.alloc ?_ _) | ((with_reducible refine Ext.setp ?_ ?_); focus (dsimp only; omega)) | (with_reducible refine Ext.drew ?_) | (with_reducible refine Ext.drewN ?_ _) | (with_reducible refine Ext.trans ?_ (by assumption))))
set_option maxHeartbeats 4000000 in
theorem refMulR_any (va vb : Value) (ra rb : RR) (w : World) (ha : RdR w va ra) (hb : RdR w vb rb) (la : LimR ra) (lb : LimR rb) :
    Calls Tryz.prog 54 #[va, vb] w fun e w' => ResR w w' e (mulR ra rb) ∧ Ext w w' := by
  have hwr := fun W (x : Ext w W) => refWrong6_any va vb ra rb W (ha.ext x) (hb.ext x) la lb
  have HA := Lib.hid ha; have HB := Lib.hid hb
  obtain ⟨a1, a2, a3, a4, rfl⟩ := ha.shape
  obtain ⟨b1, b2, b3, b4, rfl⟩ := hb.shape
  by_cases hc : chkR2 ra rb = 0
  · obtain ⟨hca, hcb⟩ := chkR2_0 hc
    have ea := valid_eq la hca; have eb := valid_eq lb hcb
    have sa := lenR_mono (valid_lenR la hca) (show 128 ≤ 2000 by decide); have sb := lenR_mono (valid_lenR lb hcb) (show 128 ≤ 2000 by decide)
    have hop := fun W (x : Ext w W) => refProduct6_any _ _ (qv ra) (qv rb) W (by rw [← ea]; exact HA.out.ext x) (by rw [← eb]; exact HB.out.ext x) (by rw [← ea]; exact sa) (by rw [← eb]; exact sb)
    have eo : mulR ra rb = fitR (qv ra * qv rb) := by unfold mulR opR; rw [if_pos hc]
    have hft := fun W v h x => refFit6_any v (qv ra * qv rb) w W h x
    rw [hc] at hwr
    obtain ⟨R, hR⟩ : ∃ R, R = rep (qv ra * qv rb) := ⟨_, rfl⟩
    obtain ⟨F, hF⟩ : ∃ F, F = fitR (qv ra * qv rb) := ⟨_, rfl⟩
    rw [← hR] at hft hop
    rw [← hF] at hft eo
    obtain ⟨F1, F2⟩ := F
    have HWR := Lib.hid hwr; have EO := Lib.hid eo; have HOP := Lib.hid hop; have HFT := Lib.hid hft
    clear hwr eo hop hft hR hF hc hca hcb ha hb la lb ea eb sa sb
    have bb0 := (((Blk.new w #[.bool ra.neg, .slice a1 ra.num.length a2, .slice a3 ra.den.length a4] 33).alloc (.cells #[.bool rb.neg, .slice b1 rb.num.length b2, .slice b3 rb.den.length b4] 33)).alloc (.cells #[.bool false, .slice none 0 0, .slice none 0 0] 33))
    have bb1 := ((Blk.new (w.alloc (.cells #[.bool ra.neg, .slice a1 ra.num.length a2, .slice a3 ra.den.length a4] 33)) #[.bool rb.neg, .slice b1 rb.num.length b2, .slice b3 rb.den.length b4] 33).alloc (.cells #[.bool false, .slice none 0 0, .slice none 0 0] 33))
    have bb2 := (Blk.new ((w.alloc (.cells #[.bool ra.neg, .slice a1 ra.num.length a2, .slice a3 ra.den.length a4] 33)).alloc (.cells #[.bool rb.neg, .slice b1 rb.num.length b2, .slice b3 rb.den.length b4] 33)) #[.bool false, .slice none 0 0, .slice none 0 0] 33)
    rw [World.size_alloc] at bb1
    rw [World.size_alloc, World.size_alloc] at bb2
    have x0 : Ext w (((w.alloc (.cells #[.bool ra.neg, .slice a1 ra.num.length a2, .slice a3 ra.den.length a4] 33)).alloc (.cells #[.bool rb.neg, .slice b1 rb.num.length b2, .slice b3 rb.den.length b4] 33)).alloc (.cells #[.bool false, .slice none 0 0, .slice none 0 0] 33)) := ((((Ext.refl w).alloc _).alloc _).alloc _)
    have A0 := Lib.hid bb0; have A1 := Lib.hid bb1; have A2 := Lib.hid bb2; have X := Lib.hid x0
    clear x0 bb0 bb1 bb2
    go_enter Tryz.func54, Tryz.ntmps54
    have qA0 := A0.out.cell; have fA0 := A0.out.free; have lA0 := A0.out.lt; have qA1 := A1.out.cell; have fA1 := A1.out.free; have lA1 := A1.out.lt
    go_wp2_with fail
    refine (HWR.out _ X.out).mono ?_
    rintro e w1 ⟨rfl, hx⟩
    clear qA0 fA0 lA0 qA1 fA1 lA1
    have A0 := Lib.hid (A0.out.ext hx); have A1 := Lib.hid (A1.out.ext hx); have A2 := Lib.hid (A2.out.ext hx); have X := Lib.hid (X.out.trans hx)
    clear hx
    have qA0 := A0.out.cell; have fA0 := A0.out.free; have lA0 := A0.out.lt; have qA1 := A1.out.cell; have fA1 := A1.out.free; have lA1 := A1.out.lt
    have xo := X.out
    go_wp2_with fail
    refine (HOP.out _ X.out).mono ?_
    rintro e w2 ⟨⟨v, rfl, nn⟩, hx⟩
    clear qA0 fA0 lA0 qA1 fA1 lA1
    have A0 := Lib.hid (A0.out.ext hx); have A1 := Lib.hid (A1.out.ext hx); have A2 := Lib.hid (A2.out.ext hx); have X := Lib.hid (X.out.trans hx)
    obtain ⟨n1, n2, n3, n4, rfl⟩ := nn.shape
    have Nn := Lib.hid nn.rd
    have On := Lib.hid (nn.from xo)
    clear xo
    clear nn hx
    go_wp2_with fail
    refine (HFT.out _ _ On.out X.out).mono ?_
    rintro e w3 ⟨⟨v, rfl, nn⟩, hx⟩
    have A0 := Lib.hid (A0.out.ext hx); have A1 := Lib.hid (A1.out.ext hx); have A2 := Lib.hid (A2.out.ext hx); have Nn := Lib.hid (Nn.out.ext hx); have On := Lib.hid (On.out.ext hx); have X := Lib.hid (X.out.trans hx)
    dsimp only at nn ⊢
    obtain ⟨f1, f2, f3, f4, rfl⟩ := nn.shape
    have Of := Lib.hid nn
    clear nn hx
    have qA2 := A2.out.cell; have fA2 := A2.out.free; have lA2 := A2.out.lt
    go_wp2_with fail
    refine bodyPost_ret (v := .tuple #[.agg #[.bool F1.neg, .slice f1 F1.num.length f2, .slice f3 F1.den.length f4], .int .i64 F2]) (by simp only [results, Tryz.results54]; go_simp) rfl ⟨ResR.mk (NewR.set3 Of.out A2.out (by decide) _ _ _) EO.out, ?_⟩
    have := X.out; (repeat (first | (with_reducible exact Ext.refl _) | (with_reducible assumption) | (with_reducible refine Ext.alloc ?_ _) | ((with_reducible refine Ext.setp ?_ ?_); focus (dsimp only; omega)) | (with_reducible refine Ext.drew ?_) | (with_reducible refine Ext.drewN ?_ _) | (with_reducible refine Ext.trans ?_ (by assumption))))
  · have eo : mulR ra rb = (zR, chkR2 ra rb) := by unfold mulR opR; rw [if_neg hc]
    obtain ⟨cc, hcc⟩ : ∃ cc, cc = chkR2 ra rb := ⟨_, rfl⟩
    rw [← hcc] at eo hwr hc
    have hcb' : (cc != 0) = true := by simpa using hc
    have HWR := Lib.hid hwr; have EO := Lib.hid eo
    clear hwr eo hcc hc ha hb la lb
    have bb0 := (((Blk.new w #[.bool ra.neg, .slice a1 ra.num.length a2, .slice a3 ra.den.length a4] 33).alloc (.cells #[.bool rb.neg, .slice b1 rb.num.length b2, .slice b3 rb.den.length b4] 33)).alloc (.cells #[.bool false, .slice none 0 0, .slice none 0 0] 33))
    have bb1 := ((Blk.new (w.alloc (.cells #[.bool ra.neg, .slice a1 ra.num.length a2, .slice a3 ra.den.length a4] 33)) #[.bool rb.neg, .slice b1 rb.num.length b2, .slice b3 rb.den.length b4] 33).alloc (.cells #[.bool false, .slice none 0 0, .slice none 0 0] 33))
    have bb2 := (Blk.new ((w.alloc (.cells #[.bool ra.neg, .slice a1 ra.num.length a2, .slice a3 ra.den.length a4] 33)).alloc (.cells #[.bool rb.neg, .slice b1 rb.num.length b2, .slice b3 rb.den.length b4] 33)) #[.bool false, .slice none 0 0, .slice none 0 0] 33)
    rw [World.size_alloc] at bb1
    rw [World.size_alloc, World.size_alloc] at bb2
    have x0 : Ext w (((w.alloc (.cells #[.bool ra.neg, .slice a1 ra.num.length a2, .slice a3 ra.den.length a4] 33)).alloc (.cells #[.bool rb.neg, .slice b1 rb.num.length b2, .slice b3 rb.den.length b4] 33)).alloc (.cells #[.bool false, .slice none 0 0, .slice none 0 0] 33)) := ((((Ext.refl w).alloc _).alloc _).alloc _)
    have A0 := Lib.hid bb0; have A1 := Lib.hid bb1; have A2 := Lib.hid bb2; have X := Lib.hid x0
    clear x0 bb0 bb1 bb2
    go_enter Tryz.func54, Tryz.ntmps54
    have qA0 := A0.out.cell; have fA0 := A0.out.free; have lA0 := A0.out.lt; have qA1 := A1.out.cell; have fA1 := A1.out.free; have lA1 := A1.out.lt
    go_wp2_with fail
    refine (HWR.out _ X.out).mono ?_
    rintro e w1 ⟨rfl, hx⟩
    clear qA0 fA0 lA0 qA1 fA1 lA1
    have A0 := Lib.hid (A0.out.ext hx); have A1 := Lib.hid (A1.out.ext hx); have A2 := Lib.hid (A2.out.ext hx); have X := Lib.hid (X.out.trans hx)
    clear hx
    have qA2 := A2.out.cell; have fA2 := A2.out.free; have lA2 := A2.out.lt
    go_wp2_with fail
    refine bodyPost_ret (v := .tuple #[.agg #[.bool false, .slice none 0 0, .slice none 0 0], .int .i64 cc]) (by simp only [results, Tryz.results54]; go_simp) rfl ⟨ResR.mk (NewR.zero _ _) EO.out, ?_⟩
    have := X.out; (repeat (first | (with_reducible exact Ext.refl _) | (with_reducible assumption) | (with_reducible refine Ext.alloc ?_ _) | ((with_reducible refine Ext.setp ?_ ?_); focus (dsimp only; omega)) | (with_reducible refine Ext.drew ?_) | (with_reducible refine Ext.drewN ?_ _) | (with_reducible refine Ext.trans ?_ (by assumption))))
set_option maxHeartbeats 4000000 in
theorem refSubR_any (va vb : Value) (ra rb : RR) (w : World) (ha : RdR w va ra) (hb : RdR w vb rb) (la : LimR ra) (lb : LimR rb) :
    Calls Tryz.prog 53 #[va, vb] w fun e w' => ResR w w' e (subR ra rb) ∧ Ext w w' := by
  have hwr := fun W (x : Ext w W) => refWrong6_any va vb ra rb W (ha.ext x) (hb.ext x) la lb
  have HA := Lib.hid ha; have HB := Lib.hid hb
  obtain ⟨a1, a2, a3, a4, rfl⟩ := ha.shape
  obtain ⟨b1, b2, b3, b4, rfl⟩ := hb.shape
  by_cases hc : chkR2 ra rb = 0
  · obtain ⟨hca, hcb⟩ := chkR2_0 hc
    have ea := valid_eq la hca; have eb := valid_eq lb hcb
    have sa := lenR_mono (valid_lenR la hca) (show 128 ≤ 2000 by decide); have sb := lenR_mono (valid_lenR lb hcb) (show 128 ≤ 2000 by decide)
    have hmi := fun W (x : Ext w W) => refMinus6_any _ rb W (HB.out.ext x) sb
    have em : minR rb = rep (-qv rb) := by rw [← minR_rep, ← eb]
    have hop := fun W v2 (x : Ext w W) h2 => refSum6_any _ v2 (qv ra) (-qv rb) W (by rw [← ea]; exact HA.out.ext x) h2 (by rw [← ea]; exact sa) (bd_neg_len (by rw [← eb]; exact sb))
    rw [← Rat.sub_eq_add_neg] at hop
    rw [em] at hmi
    obtain ⟨MB, hMB⟩ : ∃ M, M = rep (-qv rb) := ⟨_, rfl⟩
    rw [← hMB] at hmi hop
    have HMI := Lib.hid hmi
    clear hmi em hMB
    have eo : subR ra rb = fitR (qv ra - qv rb) := by unfold subR opR; rw [if_pos hc]
    have hft := fun W v h x => refFit6_any v (qv ra - qv rb) w W h x
    rw [hc] at hwr
    obtain ⟨R, hR⟩ : ∃ R, R = rep (qv ra - qv rb) := ⟨_, rfl⟩
    obtain ⟨F, hF⟩ : ∃ F, F = fitR (qv ra - qv rb) := ⟨_, rfl⟩
    rw [← hR] at hft hop
    rw [← hF] at hft eo
    obtain ⟨F1, F2⟩ := F
    have HWR := Lib.hid hwr; have EO := Lib.hid eo; have HOP := Lib.hid hop; have HFT := Lib.hid hft
    clear hwr eo hop hft hR hF hc hca hcb ha hb la lb ea eb sa sb
    have bb0 := (((Blk.new w #[.bool ra.neg, .slice a1 ra.num.length a2, .slice a3 ra.den.length a4] 33).alloc (.cells #[.bool rb.neg, .slice b1 rb.num.length b2, .slice b3 rb.den.length b4] 33)).alloc (.cells #[.bool false, .slice none 0 0, .slice none 0 0] 33))
    have bb1 := ((Blk.new (w.alloc (.cells #[.bool ra.neg, .slice a1 ra.num.length a2, .slice a3 ra.den.length a4] 33)) #[.bool rb.neg, .slice b1 rb.num.length b2, .slice b3 rb.den.length b4] 33).alloc (.cells #[.bool false, .slice none 0 0, .slice none 0 0] 33))
    have bb2 := (Blk.new ((w.alloc (.cells #[.bool ra.neg, .slice a1 ra.num.length a2, .slice a3 ra.den.length a4] 33)).alloc (.cells #[.bool rb.neg, .slice b1 rb.num.length b2, .slice b3 rb.den.length b4] 33)) #[.bool false, .slice none 0 0, .slice none 0 0] 33)
    rw [World.size_alloc] at bb1
    rw [World.size_alloc, World.size_alloc] at bb2
    have x0 : Ext w (((w.alloc (.cells #[.bool ra.neg, .slice a1 ra.num.length a2, .slice a3 ra.den.length a4] 33)).alloc (.cells #[.bool rb.neg, .slice b1 rb.num.length b2, .slice b3 rb.den.length b4] 33)).alloc (.cells #[.bool false, .slice none 0 0, .slice none 0 0] 33)) := ((((Ext.refl w).alloc _).alloc _).alloc _)
    have A0 := Lib.hid bb0; have A1 := Lib.hid bb1; have A2 := Lib.hid bb2; have X := Lib.hid x0
    clear x0 bb0 bb1 bb2
    go_enter Tryz.func53, Tryz.ntmps53
    have qA0 := A0.out.cell; have fA0 := A0.out.free; have lA0 := A0.out.lt; have qA1 := A1.out.cell; have fA1 := A1.out.free; have lA1 := A1.out.lt
    go_wp2_with fail
    refine (HWR.out _ X.out).mono ?_
    rintro e w1 ⟨rfl, hx⟩
    clear qA0 fA0 lA0 qA1 fA1 lA1
    have A0 := Lib.hid (A0.out.ext hx); have A1 := Lib.hid (A1.out.ext hx); have A2 := Lib.hid (A2.out.ext hx); have X := Lib.hid (X.out.trans hx)
    clear hx
    go_wp2_with fail
    refine wp_region_held_drew (S := (fun W => (Blk W w.heap.size #[.bool ra.neg, .slice a1 ra.num.length a2, .slice a3 ra.den.length a4] 33 ∧ W.cell? ⟨w.heap.size, 0, none⟩ = some (.bool ra.neg) ∧ W.cell? ⟨w.heap.size, 1, none⟩ = some (.slice a1 ra.num.length a2) ∧ W.cell? ⟨w.heap.size, 2, none⟩ = some (.slice a3 ra.den.length a4)) ∧ (Blk W (w.heap.size + 1) #[.bool rb.neg, .slice b1 rb.num.length b2, .slice b3 rb.den.length b4] 33 ∧ W.cell? ⟨(w.heap.size + 1), 0, none⟩ = some (.bool rb.neg) ∧ W.cell? ⟨(w.heap.size + 1), 1, none⟩ = some (.slice b1 rb.num.length b2) ∧ W.cell? ⟨(w.heap.size + 1), 2, none⟩ = some (.slice b3 rb.den.length b4)))) (by kernel_rfl) ?_ (fun hHeld => ?_)
    · exact ⟨Blk.s3 A0.out.drew, Blk.s3 A1.out.drew⟩
    refine wpAnyH_take (i := 0) (v := ?_) rfl (by kernel_rfl) (by kernel_rfl) (by kernel_rfl) (fun _ _ _ h => h) (Or.inl ⟨by rfl, ?_⟩) (by assumption) ?_
    rotate_left
    · (intro w hSw; (try dsimp only at hSw); go_simp; first | done | with_reducible rfl)
    (try simp only [Act.put, List.getElem_toArray, List.getElem_cons_zero, List.getElem_cons_succ, List.setIfInBounds_toArray, List.set_cons_zero, List.set_cons_succ])
    refine wpAnyH_take (i := 1) (v := ?_) rfl (by kernel_rfl) (by kernel_rfl) (by kernel_rfl) (fun _ _ _ h => h) (Or.inl ⟨by rfl, ?_⟩) (by assumption) ?_
    rotate_left
    · (intro w hSw; (try dsimp only at hSw); go_simp; first | done | with_reducible rfl)
    (try simp only [Act.put, List.getElem_toArray, List.getElem_cons_zero, List.getElem_cons_succ, List.setIfInBounds_toArray, List.set_cons_zero, List.set_cons_succ])
    refine wpAnyH_ready (rs := [2]) (by kernel_rfl) (by simp) ?_
    refine AllReadyH.cons rfl (fun K hK => ?_) ?_
    rotate_left
    · exact AllReadyH.nil
    go_simp
    refine (HMI.out _ (Ext.trans X.out (by first | exact Ext.refl _ | exact (Ext.refl _).drew))).mono ?_
    rintro e w2 ⟨⟨v, rfl, nn⟩, hx⟩
    have hx := Ext.trans (show Ext w1 _ from by first | exact Ext.refl _ | exact (Ext.refl _).drew) hx
    have A0 := Lib.hid (A0.out.ext hx); have A1 := Lib.hid (A1.out.ext hx); have A2 := Lib.hid (A2.out.ext hx); have X := Lib.hid (X.out.trans hx)
    obtain ⟨m1, m2, m3, m4, rfl⟩ := nn.shape
    have Nm := Lib.hid nn.rd
    clear nn hx
    first | refine hK.out _ _ ?_ (fun hHeld => ?_) | (go_wp2_with fail; refine hK.out _ _ ?_ (fun hHeld => ?_))
    · exact ⟨Blk.s3 A0.out, Blk.s3 A1.out⟩
    clear hK K
    (try simp only [Act.put, List.getElem_toArray, List.getElem_cons_zero, List.getElem_cons_succ, List.setIfInBounds_toArray, List.set_cons_zero, List.set_cons_succ])
    have x6 := X.out
    refine wpAnyH_ready (rs := [3]) (by kernel_rfl) (by simp) ?_
    refine AllReadyH.cons rfl (fun K hK => ?_) ?_
    rotate_left
    · exact AllReadyH.nil
    go_simp
    refine (HOP.out _ _ (Ext.trans X.out (by first | exact Ext.refl _ | exact (Ext.refl _).drew)) (Nm.out.ext (by first | exact Ext.refl _ | exact (Ext.refl _).drew))).mono ?_
    rintro e w3 ⟨⟨v, rfl, nn⟩, hx⟩
    have hx := Ext.trans (show Ext w2 _ from by first | exact Ext.refl _ | exact (Ext.refl _).drew) hx
    have A0 := Lib.hid (A0.out.ext hx); have A1 := Lib.hid (A1.out.ext hx); have A2 := Lib.hid (A2.out.ext hx); have Nm := Lib.hid (Nm.out.ext hx); have X := Lib.hid (X.out.trans hx)
    obtain ⟨n1, n2, n3, n4, rfl⟩ := nn.shape
    have Nn := Lib.hid nn.rd
    have On := Lib.hid (nn.from (x6))
    clear nn hx
    first | refine hK.out _ _ ?_ (fun hHeld => ?_) | (go_wp2_with fail; refine hK.out _ _ ?_ (fun hHeld => ?_))
    · exact ⟨Blk.s3 A0.out, Blk.s3 A1.out⟩
    clear hK K
    (try simp only [Act.put, List.getElem_toArray, List.getElem_cons_zero, List.getElem_cons_succ, List.setIfInBounds_toArray, List.set_cons_zero, List.set_cons_succ])
    refine wpAnyH_ready (rs := [4]) (by kernel_rfl) (by simp) ?_
    refine AllReadyH.cons rfl (fun K hK => ?_) ?_
    rotate_left
    · exact AllReadyH.nil
    go_simp
    refine (HFT.out _ _ (On.out.ext (by first | exact Ext.refl _ | exact (Ext.refl _).drew)) (Ext.trans X.out (by first | exact Ext.refl _ | exact (Ext.refl _).drew))).mono ?_
    rintro e w4 ⟨⟨v, rfl, nn⟩, hx⟩
    have hx := Ext.trans (show Ext w3 _ from by first | exact Ext.refl _ | exact (Ext.refl _).drew) hx
    have A0 := Lib.hid (A0.out.ext hx); have A1 := Lib.hid (A1.out.ext hx); have A2 := Lib.hid (A2.out.ext hx); have Nm := Lib.hid (Nm.out.ext hx); have Nn := Lib.hid (Nn.out.ext hx); have On := Lib.hid (On.out.ext hx); have X := Lib.hid (X.out.trans hx)
    dsimp only at nn ⊢
    obtain ⟨f1, f2, f3, f4, rfl⟩ := nn.shape
    have Of := Lib.hid nn
    clear nn hx
    first | refine hK.out _ _ ?_ (fun hHeld => ?_) | (go_wp2_with fail; refine hK.out _ _ ?_ (fun hHeld => ?_))
    · exact ⟨Blk.s3 A0.out, Blk.s3 A1.out⟩
    clear hK K
    (try simp only [Act.put, List.getElem_toArray, List.getElem_cons_zero, List.getElem_cons_succ, List.setIfInBounds_toArray, List.set_cons_zero, List.set_cons_succ])
    refine wpAnyH_take (i := 5) (v := ?_) rfl (by kernel_rfl) (by kernel_rfl) (by kernel_rfl) (fun _ _ _ h => h) (Or.inl ⟨by rfl, ?_⟩) (by assumption) ?_
    rotate_left
    · (intro w hSw; (try dsimp only at hSw); go_simp; first | done | with_reducible rfl)
    (try simp only [Act.put, List.getElem_toArray, List.getElem_cons_zero, List.getElem_cons_succ, List.setIfInBounds_toArray, List.set_cons_zero, List.set_cons_succ])
    refine wpAnyH_take (i := 6) (v := ?_) rfl (by kernel_rfl) (by kernel_rfl) (by kernel_rfl) (fun _ _ _ h => h) (Or.inl ⟨by rfl, ?_⟩) (by assumption) ?_
    rotate_left
    · (intro w hSw; (try dsimp only at hSw); go_simp; first | done | with_reducible rfl)
    (try simp only [Act.put, List.getElem_toArray, List.getElem_cons_zero, List.getElem_cons_succ, List.setIfInBounds_toArray, List.set_cons_zero, List.set_cons_succ])
    have q2 := A2.out.cell; have f2' := A2.out.free; have l2' := A2.out.lt
    refine wpAnyH_ready (rs := [7]) (by kernel_rfl) (by simp) ?_
    refine AllReadyH.cons rfl (fun K hK => ?_) ?_
    rotate_left
    · exact AllReadyH.nil
    go_simp
    first | refine hK.out _ _ ?_ (fun hHeld => ?_) | (go_wp2_with fail; refine hK.out _ _ ?_ (fun hHeld => ?_))
    · ((try dsimp only); (refine ⟨Blk.s3 ?_, Blk.s3 ?_⟩ <;> (repeat (first | exact A0.out | exact A1.out | refine Blk.setOther ?_ (by dsimp only; omega) _ | refine Blk.alloc ?_ _ | refine Blk.drew ?_))))
    clear hK K
    (try simp only [Act.put, List.getElem_toArray, List.getElem_cons_zero, List.getElem_cons_succ, List.setIfInBounds_toArray, List.set_cons_zero, List.set_cons_succ])
    refine wpAnyH_ready (rs := [8]) (by kernel_rfl) (by simp) ?_
    refine AllReadyH.cons rfl (fun K hK => ?_) ?_
    rotate_left
    · exact AllReadyH.nil
    go_simp
    first | refine hK.out _ _ ?_ (fun hHeld => ?_) | (go_wp2_with fail; refine hK.out _ _ ?_ (fun hHeld => ?_))
    · ((try dsimp only); (refine ⟨Blk.s3 ?_, Blk.s3 ?_⟩ <;> (repeat (first | exact A0.out | exact A1.out | refine Blk.setOther ?_ (by dsimp only; omega) _))))
    clear hK K
    (try simp only [Act.put, List.getElem_toArray, List.getElem_cons_zero, List.getElem_cons_succ, List.setIfInBounds_toArray, List.set_cons_zero, List.set_cons_succ])
    refine wpAnyH_done (by kernel_rfl) ?_ _
    go_wp2_with fail
    refine bodyPost_ret (v := .tuple #[.agg #[.bool F1.neg, .slice f1 F1.num.length f2, .slice f3 F1.den.length f4], .int .i64 F2]) (by simp only [results, Tryz.results53]; go_simp) rfl ⟨ResR.mk (NewR.set3 Of.out A2.out (by decide) _ _ _) EO.out, ?_⟩
    have := X.out; (repeat (first | (with_reducible exact Ext.refl _) | (with_reducible assumption) | (with_reducible refine Ext.alloc ?_ _) | ((with_reducible refine Ext.setp ?_ ?_); focus (dsimp only; omega)) | (with_reducible refine Ext.drew ?_) | (with_reducible refine Ext.drewN ?_ _) | (with_reducible refine Ext.trans ?_ (by assumption))))
  · have eo : subR ra rb = (zR, chkR2 ra rb) := by unfold subR opR; rw [if_neg hc]
    obtain ⟨cc, hcc⟩ : ∃ cc, cc = chkR2 ra rb := ⟨_, rfl⟩
    rw [← hcc] at eo hwr hc
    have hcb' : (cc != 0) = true := by simpa using hc
    have HWR := Lib.hid hwr; have EO := Lib.hid eo
    clear hwr eo hcc hc ha hb la lb
    have bb0 := (((Blk.new w #[.bool ra.neg, .slice a1 ra.num.length a2, .slice a3 ra.den.length a4] 33).alloc (.cells #[.bool rb.neg, .slice b1 rb.num.length b2, .slice b3 rb.den.length b4] 33)).alloc (.cells #[.bool false, .slice none 0 0, .slice none 0 0] 33))
    have bb1 := ((Blk.new (w.alloc (.cells #[.bool ra.neg, .slice a1 ra.num.length a2, .slice a3 ra.den.length a4] 33)) #[.bool rb.neg, .slice b1 rb.num.length b2, .slice b3 rb.den.length b4] 33).alloc (.cells #[.bool false, .slice none 0 0, .slice none 0 0] 33))
    have bb2 := (Blk.new ((w.alloc (.cells #[.bool ra.neg, .slice a1 ra.num.length a2, .slice a3 ra.den.length a4] 33)).alloc (.cells #[.bool rb.neg, .slice b1 rb.num.length b2, .slice b3 rb.den.length b4] 33)) #[.bool false, .slice none 0 0, .slice none 0 0] 33)
    rw [World.size_alloc] at bb1
    rw [World.size_alloc, World.size_alloc] at bb2
    have x0 : Ext w (((w.alloc (.cells #[.bool ra.neg, .slice a1 ra.num.length a2, .slice a3 ra.den.length a4] 33)).alloc (.cells #[.bool rb.neg, .slice b1 rb.num.length b2, .slice b3 rb.den.length b4] 33)).alloc (.cells #[.bool false, .slice none 0 0, .slice none 0 0] 33)) := ((((Ext.refl w).alloc _).alloc _).alloc _)
    have A0 := Lib.hid bb0; have A1 := Lib.hid bb1; have A2 := Lib.hid bb2; have X := Lib.hid x0
    clear x0 bb0 bb1 bb2
    go_enter Tryz.func53, Tryz.ntmps53
    have qA0 := A0.out.cell; have fA0 := A0.out.free; have lA0 := A0.out.lt; have qA1 := A1.out.cell; have fA1 := A1.out.free; have lA1 := A1.out.lt
    go_wp2_with fail
    refine (HWR.out _ X.out).mono ?_
    rintro e w1 ⟨rfl, hx⟩
    clear qA0 fA0 lA0 qA1 fA1 lA1
    have A0 := Lib.hid (A0.out.ext hx); have A1 := Lib.hid (A1.out.ext hx); have A2 := Lib.hid (A2.out.ext hx); have X := Lib.hid (X.out.trans hx)
    clear hx
    have qA2 := A2.out.cell; have fA2 := A2.out.free; have lA2 := A2.out.lt
    go_wp2_with fail
    refine bodyPost_ret (v := .tuple #[.agg #[.bool false, .slice none 0 0, .slice none 0 0], .int .i64 cc]) (by simp only [results, Tryz.results53]; go_simp) rfl ⟨ResR.mk (NewR.zero _ _) EO.out, ?_⟩
    have := X.out; (repeat (first | (with_reducible exact Ext.refl _) | (with_reducible assumption) | (with_reducible refine Ext.alloc ?_ _) | ((with_reducible refine Ext.setp ?_ ?_); focus (dsimp only; omega)) | (with_reducible refine Ext.drew ?_) | (with_reducible refine Ext.drewN ?_ _) | (with_reducible refine Ext.trans ?_ (by assumption))))
set_option maxHeartbeats 4000000 in
theorem refDivR_any (va vb : Value) (ra rb : RR) (w : World) (ha : RdR w va ra) (hb : RdR w vb rb) (la : LimR ra) (lb : LimR rb) :
    Calls Tryz.prog 55 #[va, vb] w fun e w' => ResR w w' e (divR ra rb) ∧ Ext w w' := by
  have hwr := fun W (x : Ext w W) => refWrong6_any va vb ra rb W (ha.ext x) (hb.ext x) la lb
  have HA := Lib.hid ha; have HB := Lib.hid hb
  obtain ⟨a1, a2, a3, a4, rfl⟩ := ha.shape
  obtain ⟨b1, b2, b3, b4, rfl⟩ := hb.shape
  by_cases hc : chkR2 ra rb = 0
  · obtain ⟨hca, hcb⟩ := chkR2_0 hc
    have ea := valid_eq la hca; have eb := valid_eq lb hcb
    have sa := lenR_mono (valid_lenR la hca) (show 128 ≤ 2000 by decide); have sb := lenR_mono (valid_lenR lb hcb) (show 128 ≤ 2000 by decide)
    by_cases hz : rb.num = []
    · have eo : divR ra rb = (zR, 14) := by unfold divR opR; rw [if_pos hc, if_pos hz]
      rw [hc] at hwr
      have q9 : ((rb.num.length : Int) == 0) = true := by simp [hz]
      have HWR := Lib.hid hwr; have EO := Lib.hid eo
      clear hwr eo hc hca hcb ha hb la lb ea eb sa sb hz
      have bb0 := (((Blk.new w #[.bool ra.neg, .slice a1 ra.num.length a2, .slice a3 ra.den.length a4] 33).alloc (.cells #[.bool rb.neg, .slice b1 rb.num.length b2, .slice b3 rb.den.length b4] 33)).alloc (.cells #[.bool false, .slice none 0 0, .slice none 0 0] 33))
      have bb1 := ((Blk.new (w.alloc (.cells #[.bool ra.neg, .slice a1 ra.num.length a2, .slice a3 ra.den.length a4] 33)) #[.bool rb.neg, .slice b1 rb.num.length b2, .slice b3 rb.den.length b4] 33).alloc (.cells #[.bool false, .slice none 0 0, .slice none 0 0] 33))
      have bb2 := (Blk.new ((w.alloc (.cells #[.bool ra.neg, .slice a1 ra.num.length a2, .slice a3 ra.den.length a4] 33)).alloc (.cells #[.bool rb.neg, .slice b1 rb.num.length b2, .slice b3 rb.den.length b4] 33)) #[.bool false, .slice none 0 0, .slice none 0 0] 33)
      rw [World.size_alloc] at bb1
      rw [World.size_alloc, World.size_alloc] at bb2
      have x0 : Ext w (((w.alloc (.cells #[.bool ra.neg, .slice a1 ra.num.length a2, .slice a3 ra.den.length a4] 33)).alloc (.cells #[.bool rb.neg, .slice b1 rb.num.length b2, .slice b3 rb.den.length b4] 33)).alloc (.cells #[.bool false, .slice none 0 0, .slice none 0 0] 33)) := ((((Ext.refl w).alloc _).alloc _).alloc _)
      have A0 := Lib.hid bb0; have A1 := Lib.hid bb1; have A2 := Lib.hid bb2; have X := Lib.hid x0
      clear x0 bb0 bb1 bb2
      go_enter Tryz.func55, Tryz.ntmps55
      have qA0 := A0.out.cell; have fA0 := A0.out.free; have lA0 := A0.out.lt; have qA1 := A1.out.cell; have fA1 := A1.out.free; have lA1 := A1.out.lt
      go_wp2_with fail
      refine (HWR.out _ X.out).mono ?_
      rintro e w1 ⟨rfl, hx⟩
      clear qA0 fA0 lA0 qA1 fA1 lA1
      have A0 := Lib.hid (A0.out.ext hx); have A1 := Lib.hid (A1.out.ext hx); have A2 := Lib.hid (A2.out.ext hx); have X := Lib.hid (X.out.trans hx)
      clear hx
      have qA1 := A1.out.cell; have fA1 := A1.out.free; have lA1 := A1.out.lt; have qA2 := A2.out.cell; have fA2 := A2.out.free; have lA2 := A2.out.lt
      go_wp2_with fail
      refine bodyPost_ret (v := .tuple #[.agg #[.bool false, .slice none 0 0, .slice none 0 0], .int .i64 14]) (by simp only [results, Tryz.results55]; go_simp) rfl ⟨ResR.mk (NewR.zero _ _) EO.out, ?_⟩
      have := X.out; (repeat (first | (with_reducible exact Ext.refl _) | (with_reducible assumption) | (with_reducible refine Ext.alloc ?_ _) | ((with_reducible refine Ext.setp ?_ ?_); focus (dsimp only; omega)) | (with_reducible refine Ext.drew ?_) | (with_reducible refine Ext.drewN ?_ _) | (with_reducible refine Ext.trans ?_ (by assumption))))
    · have q9 : ((rb.num.length : Int) == 0) = false := by
        have : rb.num.length ≠ 0 := fun e => hz (List.length_eq_zero_iff.1 e)
        simpa using this
      have hvl := valid_len lb hcb
      have hinv := vq_inv lb hcb hz
      have hde := fun W (x : Ext w W) => den_any _ rb W (HB.out.ext x)
      have hmk := fun W v1 v2 h1 h2 => make_any rb.neg v1 v2 (dl rb.den) rb.num W h1 h2 hvl.2.2.2.2.2 lb.1 hvl.2.2.2.1 hvl.2.2.1 (Nat.le_trans hvl.2.1 (by decide)) (Nat.le_trans hvl.1 (by decide)) (nv_ne lb.1 hvl.2.2.1 hz)
      rw [show mkRat (sg rb.neg (nv (dl rb.den))) (nv rb.num) = (qv rb)⁻¹ from hinv] at hmk
      have hbi : lenR (rep (qv rb)⁻¹) 128 := by
        apply lenR_of_bd
        rw [← hinv]
        exact bd_vq (nv_ne lb.1 hvl.2.2.1 hz) (lt_of_len hvl.2.2.2.2.2 hvl.2.1) (lt_of_len lb.1 hvl.1)
      have hop := fun W v2 (x : Ext w W) h2 => refProduct6_any _ v2 (qv ra) (qv rb)⁻¹ W (by rw [← ea]; exact HA.out.ext x) h2 (by rw [← ea]; exact sa) (lenR_mono hbi (by decide))
      rw [← Rat.div_def] at hop
      have hnb := (rdR_parts2 HB.out).1
      obtain ⟨MB, hMB⟩ : ∃ M, M = rep (qv rb)⁻¹ := ⟨_, rfl⟩
      rw [← hMB] at hmk hop
      obtain ⟨ld, hld⟩ : ∃ x, x = dl rb.den := ⟨_, rfl⟩
      rw [← hld] at hde hmk
      have HDE := Lib.hid hde; have HMK := Lib.hid hmk; have NB := Lib.hid hnb
      clear hde hmk hnb hMB hbi hinv hvl hld
      have eo : divR ra rb = fitR (qv ra / qv rb) := by unfold divR opR; rw [if_pos hc, if_neg hz]
      have hft := fun W v h x => refFit6_any v (qv ra / qv rb) w W h x
      rw [hc] at hwr
      obtain ⟨R, hR⟩ : ∃ R, R = rep (qv ra / qv rb) := ⟨_, rfl⟩
      obtain ⟨F, hF⟩ : ∃ F, F = fitR (qv ra / qv rb) := ⟨_, rfl⟩
      rw [← hR] at hft hop
      rw [← hF] at hft eo
      obtain ⟨F1, F2⟩ := F
      have HWR := Lib.hid hwr; have EO := Lib.hid eo; have HOP := Lib.hid hop; have HFT := Lib.hid hft
      clear hwr eo hop hft hR hF hc hca hcb ha hb la lb ea eb sa sb
      have bb0 := (((Blk.new w #[.bool ra.neg, .slice a1 ra.num.length a2, .slice a3 ra.den.length a4] 33).alloc (.cells #[.bool rb.neg, .slice b1 rb.num.length b2, .slice b3 rb.den.length b4] 33)).alloc (.cells #[.bool false, .slice none 0 0, .slice none 0 0] 33))
      have bb1 := ((Blk.new (w.alloc (.cells #[.bool ra.neg, .slice a1 ra.num.length a2, .slice a3 ra.den.length a4] 33)) #[.bool rb.neg, .slice b1 rb.num.length b2, .slice b3 rb.den.length b4] 33).alloc (.cells #[.bool false, .slice none 0 0, .slice none 0 0] 33))
      have bb2 := (Blk.new ((w.alloc (.cells #[.bool ra.neg, .slice a1 ra.num.length a2, .slice a3 ra.den.length a4] 33)).alloc (.cells #[.bool rb.neg, .slice b1 rb.num.length b2, .slice b3 rb.den.length b4] 33)) #[.bool false, .slice none 0 0, .slice none 0 0] 33)
      rw [World.size_alloc] at bb1
      rw [World.size_alloc, World.size_alloc] at bb2
      have x0 : Ext w (((w.alloc (.cells #[.bool ra.neg, .slice a1 ra.num.length a2, .slice a3 ra.den.length a4] 33)).alloc (.cells #[.bool rb.neg, .slice b1 rb.num.length b2, .slice b3 rb.den.length b4] 33)).alloc (.cells #[.bool false, .slice none 0 0, .slice none 0 0] 33)) := ((((Ext.refl w).alloc _).alloc _).alloc _)
      have A0 := Lib.hid bb0; have A1 := Lib.hid bb1; have A2 := Lib.hid bb2; have X := Lib.hid x0
      clear x0 bb0 bb1 bb2
      have NB := Lib.hid (NB.out.ext X.out)
      go_enter Tryz.func55, Tryz.ntmps55
      have qA0 := A0.out.cell; have fA0 := A0.out.free; have lA0 := A0.out.lt; have qA1 := A1.out.cell; have fA1 := A1.out.free; have lA1 := A1.out.lt
      go_wp2_with fail
      refine (HWR.out _ X.out).mono ?_
      rintro e w1 ⟨rfl, hx⟩
      clear qA0 fA0 lA0 qA1 fA1 lA1
      have NB := Lib.hid (NB.out.ext hx); have A0 := Lib.hid (A0.out.ext hx); have A1 := Lib.hid (A1.out.ext hx); have A2 := Lib.hid (A2.out.ext hx); have X := Lib.hid (X.out.trans hx)
      clear hx
      have qA1 := A1.out.cell; have fA1 := A1.out.free; have lA1 := A1.out.lt
      go_wp2_with fail
      clear qA1 fA1 lA1
      refine wp_region_held_drew (S := (fun W => (Blk W w.heap.size #[.bool ra.neg, .slice a1 ra.num.length a2, .slice a3 ra.den.length a4] 33 ∧ W.cell? ⟨w.heap.size, 0, none⟩ = some (.bool ra.neg) ∧ W.cell? ⟨w.heap.size, 1, none⟩ = some (.slice a1 ra.num.length a2) ∧ W.cell? ⟨w.heap.size, 2, none⟩ = some (.slice a3 ra.den.length a4)) ∧ (Blk W (w.heap.size + 1) #[.bool rb.neg, .slice b1 rb.num.length b2, .slice b3 rb.den.length b4] 33 ∧ W.cell? ⟨(w.heap.size + 1), 0, none⟩ = some (.bool rb.neg) ∧ W.cell? ⟨(w.heap.size + 1), 1, none⟩ = some (.slice b1 rb.num.length b2) ∧ W.cell? ⟨(w.heap.size + 1), 2, none⟩ = some (.slice b3 rb.den.length b4)))) (by kernel_rfl) ?_ (fun hHeld => ?_)
      · exact ⟨Blk.s3 A0.out.drew, Blk.s3 A1.out.drew⟩
      refine wpAnyH_take (i := 0) (v := ?_) rfl (by kernel_rfl) (by kernel_rfl) (by kernel_rfl) (fun _ _ _ h => h) (Or.inl ⟨by rfl, ?_⟩) (by assumption) ?_
      rotate_left
      · (intro w hSw; (try dsimp only at hSw); go_simp; first | done | with_reducible rfl)
      (try simp only [Act.put, List.getElem_toArray, List.getElem_cons_zero, List.getElem_cons_succ, List.setIfInBounds_toArray, List.set_cons_zero, List.set_cons_succ])
      refine wpAnyH_take (i := 1) (v := ?_) rfl (by kernel_rfl) (by kernel_rfl) (by kernel_rfl) (fun _ _ _ h => h) (Or.inl ⟨by rfl, ?_⟩) (by assumption) ?_
      rotate_left
      · (intro w hSw; (try dsimp only at hSw); go_simp; first | done | with_reducible rfl)
      (try simp only [Act.put, List.getElem_toArray, List.getElem_cons_zero, List.getElem_cons_succ, List.setIfInBounds_toArray, List.set_cons_zero, List.set_cons_succ])
      refine wpAnyH_take (i := 2) (v := ?_) rfl (by kernel_rfl) (by kernel_rfl) (by kernel_rfl) (fun _ _ _ h => h) (Or.inl ⟨by rfl, ?_⟩) (by assumption) ?_
      rotate_left
      · (intro w hSw; (try dsimp only at hSw); go_simp; first | done | with_reducible rfl)
      (try simp only [Act.put, List.getElem_toArray, List.getElem_cons_zero, List.getElem_cons_succ, List.setIfInBounds_toArray, List.set_cons_zero, List.set_cons_succ])
      refine wpAnyH_take (i := 3) (v := ?_) rfl (by kernel_rfl) (by kernel_rfl) (by kernel_rfl) (fun _ _ _ h => h) (Or.inl ⟨by rfl, ?_⟩) (by assumption) ?_
      rotate_left
      · (intro w hSw; (try dsimp only at hSw); go_simp; first | done | with_reducible rfl)
      (try simp only [Act.put, List.getElem_toArray, List.getElem_cons_zero, List.getElem_cons_succ, List.setIfInBounds_toArray, List.set_cons_zero, List.set_cons_succ])
      refine wpAnyH_take (i := 5) (v := ?_) rfl (by kernel_rfl) (by kernel_rfl) (by kernel_rfl) (fun _ _ _ h => h) (Or.inl ⟨by rfl, ?_⟩) (by assumption) ?_
      rotate_left
      · (intro w hSw; (try dsimp only at hSw); go_simp; first | done | with_reducible rfl)
      (try simp only [Act.put, List.getElem_toArray, List.getElem_cons_zero, List.getElem_cons_succ, List.setIfInBounds_toArray, List.set_cons_zero, List.set_cons_succ])
      refine wpAnyH_take (i := 6) (v := ?_) rfl (by kernel_rfl) (by kernel_rfl) (by kernel_rfl) (fun _ _ _ h => h) (Or.inl ⟨by rfl, ?_⟩) (by assumption) ?_
      rotate_left
      · (intro w hSw; (try dsimp only at hSw); go_simp; first | done | with_reducible rfl)
      (try simp only [Act.put, List.getElem_toArray, List.getElem_cons_zero, List.getElem_cons_succ, List.setIfInBounds_toArray, List.set_cons_zero, List.set_cons_succ])
      refine wpAnyH_ready (rs := [4]) (by kernel_rfl) (by simp) ?_
      refine AllReadyH.cons rfl (fun K hK => ?_) ?_
      rotate_left
      · exact AllReadyH.nil
      go_simp
      refine (HDE.out _ (Ext.trans X.out (by first | exact Ext.refl _ | exact (Ext.refl _).drew))).mono ?_
      rintro e w2 ⟨⟨v, rfl, nn⟩, hx⟩
      have hx := Ext.trans (show Ext w1 _ from by first | exact Ext.refl _ | exact (Ext.refl _).drew) hx
      have NB := Lib.hid (NB.out.ext hx); have A0 := Lib.hid (A0.out.ext hx); have A1 := Lib.hid (A1.out.ext hx); have A2 := Lib.hid (A2.out.ext hx); have X := Lib.hid (X.out.trans hx)
      obtain ⟨u1, u2, rfl⟩ := rdU_shape nn
      have Nu := Lib.hid nn
      clear nn hx
      first | refine hK.out _ _ ?_ (fun hHeld => ?_) | (go_wp2_with fail; refine hK.out _ _ ?_ (fun hHeld => ?_))
      · exact ⟨Blk.s3 A0.out, Blk.s3 A1.out⟩
      clear hK K
      (try simp only [Act.put, List.getElem_toArray, List.getElem_cons_zero, List.getElem_cons_succ, List.setIfInBounds_toArray, List.set_cons_zero, List.set_cons_succ])
      refine wpAnyH_ready (rs := [7]) (by kernel_rfl) (by simp) ?_
      refine AllReadyH.cons rfl (fun K hK => ?_) ?_
      rotate_left
      · exact AllReadyH.nil
      go_simp
      refine (HMK.out _ _ _ Nu.out (NB.out.ext (by first | exact Ext.refl _ | exact (Ext.refl _).drew))).mono ?_
      rintro e w3 ⟨⟨v, rfl, nn⟩, hx⟩
      have hx := Ext.trans (show Ext w2 _ from by first | exact Ext.refl _ | exact (Ext.refl _).drew) hx
      have NB := Lib.hid (NB.out.ext hx); have A0 := Lib.hid (A0.out.ext hx); have A1 := Lib.hid (A1.out.ext hx); have A2 := Lib.hid (A2.out.ext hx); have Nu := Lib.hid (Nu.out.ext hx); have X := Lib.hid (X.out.trans hx)
      obtain ⟨m1, m2, m3, m4, rfl⟩ := nn.shape
      have Nm := Lib.hid nn.rd
      clear nn hx
      first | refine hK.out _ _ ?_ (fun hHeld => ?_) | (go_wp2_with fail; refine hK.out _ _ ?_ (fun hHeld => ?_))
      · exact ⟨Blk.s3 A0.out, Blk.s3 A1.out⟩
      clear hK K
      (try simp only [Act.put, List.getElem_toArray, List.getElem_cons_zero, List.getElem_cons_succ, List.setIfInBounds_toArray, List.set_cons_zero, List.set_cons_succ])
      have x6 := X.out
      refine wpAnyH_ready (rs := [8]) (by kernel_rfl) (by simp) ?_
      refine AllReadyH.cons rfl (fun K hK => ?_) ?_
      rotate_left
      · exact AllReadyH.nil
      go_simp
      refine (HOP.out _ _ (Ext.trans X.out (by first | exact Ext.refl _ | exact (Ext.refl _).drew)) (Nm.out.ext (by first | exact Ext.refl _ | exact (Ext.refl _).drew))).mono ?_
      rintro e w4 ⟨⟨v, rfl, nn⟩, hx⟩
      have hx := Ext.trans (show Ext w3 _ from by first | exact Ext.refl _ | exact (Ext.refl _).drew) hx
      have NB := Lib.hid (NB.out.ext hx); have A0 := Lib.hid (A0.out.ext hx); have A1 := Lib.hid (A1.out.ext hx); have A2 := Lib.hid (A2.out.ext hx); have Nu := Lib.hid (Nu.out.ext hx); have Nm := Lib.hid (Nm.out.ext hx); have X := Lib.hid (X.out.trans hx)
      obtain ⟨n1, n2, n3, n4, rfl⟩ := nn.shape
      have Nn := Lib.hid nn.rd
      have On := Lib.hid (nn.from (x6))
      clear nn hx
      first | refine hK.out _ _ ?_ (fun hHeld => ?_) | (go_wp2_with fail; refine hK.out _ _ ?_ (fun hHeld => ?_))
      · exact ⟨Blk.s3 A0.out, Blk.s3 A1.out⟩
      clear hK K
      (try simp only [Act.put, List.getElem_toArray, List.getElem_cons_zero, List.getElem_cons_succ, List.setIfInBounds_toArray, List.set_cons_zero, List.set_cons_succ])
      refine wpAnyH_ready (rs := [9]) (by kernel_rfl) (by simp) ?_
      refine AllReadyH.cons rfl (fun K hK => ?_) ?_
      rotate_left
      · exact AllReadyH.nil
      go_simp
      refine (HFT.out _ _ (On.out.ext (by first | exact Ext.refl _ | exact (Ext.refl _).drew)) (Ext.trans X.out (by first | exact Ext.refl _ | exact (Ext.refl _).drew))).mono ?_
      rintro e w5 ⟨⟨v, rfl, nn⟩, hx⟩
      have hx := Ext.trans (show Ext w4 _ from by first | exact Ext.refl _ | exact (Ext.refl _).drew) hx
      have NB := Lib.hid (NB.out.ext hx); have A0 := Lib.hid (A0.out.ext hx); have A1 := Lib.hid (A1.out.ext hx); have A2 := Lib.hid (A2.out.ext hx); have Nu := Lib.hid (Nu.out.ext hx); have Nm := Lib.hid (Nm.out.ext hx); have Nn := Lib.hid (Nn.out.ext hx); have On := Lib.hid (On.out.ext hx); have X := Lib.hid (X.out.trans hx)
      dsimp only at nn ⊢
      obtain ⟨f1, f2, f3, f4, rfl⟩ := nn.shape
      have Of := Lib.hid nn
      clear nn hx
      first | refine hK.out _ _ ?_ (fun hHeld => ?_) | (go_wp2_with fail; refine hK.out _ _ ?_ (fun hHeld => ?_))
      · exact ⟨Blk.s3 A0.out, Blk.s3 A1.out⟩
      clear hK K
      (try simp only [Act.put, List.getElem_toArray, List.getElem_cons_zero, List.getElem_cons_succ, List.setIfInBounds_toArray, List.set_cons_zero, List.set_cons_succ])
      refine wpAnyH_take (i := 10) (v := ?_) rfl (by kernel_rfl) (by kernel_rfl) (by kernel_rfl) (fun _ _ _ h => h) (Or.inl ⟨by rfl, ?_⟩) (by assumption) ?_
      rotate_left
      · (intro w hSw; (try dsimp only at hSw); go_simp; first | done | with_reducible rfl)
      (try simp only [Act.put, List.getElem_toArray, List.getElem_cons_zero, List.getElem_cons_succ, List.setIfInBounds_toArray, List.set_cons_zero, List.set_cons_succ])
      refine wpAnyH_take (i := 11) (v := ?_) rfl (by kernel_rfl) (by kernel_rfl) (by kernel_rfl) (fun _ _ _ h => h) (Or.inl ⟨by rfl, ?_⟩) (by assumption) ?_
      rotate_left
      · (intro w hSw; (try dsimp only at hSw); go_simp; first | done | with_reducible rfl)
      (try simp only [Act.put, List.getElem_toArray, List.getElem_cons_zero, List.getElem_cons_succ, List.setIfInBounds_toArray, List.set_cons_zero, List.set_cons_succ])
      have q2 := A2.out.cell; have f2' := A2.out.free; have l2' := A2.out.lt
      refine wpAnyH_ready (rs := [12]) (by kernel_rfl) (by simp) ?_
      refine AllReadyH.cons rfl (fun K hK => ?_) ?_
      rotate_left
      · exact AllReadyH.nil
      go_simp
      first | refine hK.out _ _ ?_ (fun hHeld => ?_) | (go_wp2_with fail; refine hK.out _ _ ?_ (fun hHeld => ?_))
      · ((try dsimp only); (refine ⟨Blk.s3 ?_, Blk.s3 ?_⟩ <;> (repeat (first | exact A0.out | exact A1.out | refine Blk.setOther ?_ (by dsimp only; omega) _ | refine Blk.alloc ?_ _ | refine Blk.drew ?_))))
      clear hK K
      (try simp only [Act.put, List.getElem_toArray, List.getElem_cons_zero, List.getElem_cons_succ, List.setIfInBounds_toArray, List.set_cons_zero, List.set_cons_succ])
      refine wpAnyH_ready (rs := [13]) (by kernel_rfl) (by simp) ?_
      refine AllReadyH.cons rfl (fun K hK => ?_) ?_
      rotate_left
      · exact AllReadyH.nil
      go_simp
      first | refine hK.out _ _ ?_ (fun hHeld => ?_) | (go_wp2_with fail; refine hK.out _ _ ?_ (fun hHeld => ?_))
      · ((try dsimp only); (refine ⟨Blk.s3 ?_, Blk.s3 ?_⟩ <;> (repeat (first | exact A0.out | exact A1.out | refine Blk.setOther ?_ (by dsimp only; omega) _))))
      clear hK K
      (try simp only [Act.put, List.getElem_toArray, List.getElem_cons_zero, List.getElem_cons_succ, List.setIfInBounds_toArray, List.set_cons_zero, List.set_cons_succ])
      refine wpAnyH_done (by kernel_rfl) ?_ _
      go_wp2_with fail
      refine bodyPost_ret (v := .tuple #[.agg #[.bool F1.neg, .slice f1 F1.num.length f2, .slice f3 F1.den.length f4], .int .i64 F2]) (by simp only [results, Tryz.results55]; go_simp) rfl ⟨ResR.mk (NewR.set3 Of.out A2.out (by decide) _ _ _) EO.out, ?_⟩
      have := X.out; (repeat (first | (with_reducible exact Ext.refl _) | (with_reducible assumption) | (with_reducible refine Ext.alloc ?_ _) | ((with_reducible refine Ext.setp ?_ ?_); focus (dsimp only; omega)) | (with_reducible refine Ext.drew ?_) | (with_reducible refine Ext.drewN ?_ _) | (with_reducible refine Ext.trans ?_ (by assumption))))
  · have eo : divR ra rb = (zR, chkR2 ra rb) := by unfold divR opR; rw [if_neg hc]
    obtain ⟨cc, hcc⟩ : ∃ cc, cc = chkR2 ra rb := ⟨_, rfl⟩
    rw [← hcc] at eo hwr hc
    have hcb' : (cc != 0) = true := by simpa using hc
    have HWR := Lib.hid hwr; have EO := Lib.hid eo
    clear hwr eo hcc hc ha hb la lb
    have bb0 := (((Blk.new w #[.bool ra.neg, .slice a1 ra.num.length a2, .slice a3 ra.den.length a4] 33).alloc (.cells #[.bool rb.neg, .slice b1 rb.num.length b2, .slice b3 rb.den.length b4] 33)).alloc (.cells #[.bool false, .slice none 0 0, .slice none 0 0] 33))
    have bb1 := ((Blk.new (w.alloc (.cells #[.bool ra.neg, .slice a1 ra.num.length a2, .slice a3 ra.den.length a4] 33)) #[.bool rb.neg, .slice b1 rb.num.length b2, .slice b3 rb.den.length b4] 33).alloc (.cells #[.bool false, .slice none 0 0, .slice none 0 0] 33))
    have bb2 := (Blk.new ((w.alloc (.cells #[.bool ra.neg, .slice a1 ra.num.length a2, .slice a3 ra.den.length a4] 33)).alloc (.cells #[.bool rb.neg, .slice b1 rb.num.length b2, .slice b3 rb.den.length b4] 33)) #[.bool false, .slice none 0 0, .slice none 0 0] 33)
    rw [World.size_alloc] at bb1
    rw [World.size_alloc, World.size_alloc] at bb2
    have x0 : Ext w (((w.alloc (.cells #[.bool ra.neg, .slice a1 ra.num.length a2, .slice a3 ra.den.length a4] 33)).alloc (.cells #[.bool rb.neg, .slice b1 rb.num.length b2, .slice b3 rb.den.length b4] 33)).alloc (.cells #[.bool false, .slice none 0 0, .slice none 0 0] 33)) := ((((Ext.refl w).alloc _).alloc _).alloc _)
    have A0 := Lib.hid bb0; have A1 := Lib.hid bb1; have A2 := Lib.hid bb2; have X := Lib.hid x0
    clear x0 bb0 bb1 bb2
    go_enter Tryz.func55, Tryz.ntmps55
    have qA0 := A0.out.cell; have fA0 := A0.out.free; have lA0 := A0.out.lt; have qA1 := A1.out.cell; have fA1 := A1.out.free; have lA1 := A1.out.lt
    go_wp2_with fail
    refine (HWR.out _ X.out).mono ?_
    rintro e w1 ⟨rfl, hx⟩
    clear qA0 fA0 lA0 qA1 fA1 lA1
    have A0 := Lib.hid (A0.out.ext hx); have A1 := Lib.hid (A1.out.ext hx); have A2 := Lib.hid (A2.out.ext hx); have X := Lib.hid (X.out.trans hx)
    clear hx
    have qA2 := A2.out.cell; have fA2 := A2.out.free; have lA2 := A2.out.lt
    go_wp2_with fail
    refine bodyPost_ret (v := .tuple #[.agg #[.bool false, .slice none 0 0, .slice none 0 0], .int .i64 cc]) (by simp only [results, Tryz.results55]; go_simp) rfl ⟨ResR.mk (NewR.zero _ _) EO.out, ?_⟩
    have := X.out; (repeat (first | (with_reducible exact Ext.refl _) | (with_reducible assumption) | (with_reducible refine Ext.alloc ?_ _) | ((with_reducible refine Ext.setp ?_ ?_); focus (dsimp only; omega)) | (with_reducible refine Ext.drew ?_) | (with_reducible refine Ext.drewN ?_ _) | (with_reducible refine Ext.trans ?_ (by assumption))))
end Go.Proofs.YtbnalhmcbolngaaGreat
