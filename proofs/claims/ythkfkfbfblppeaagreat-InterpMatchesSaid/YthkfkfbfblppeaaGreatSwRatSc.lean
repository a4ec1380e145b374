/- Part of the proof of imatL_holds: what the row needs of RatSc. Conditions: as each theorem states. -/
import Derived.Test.YthkfkfbfblppeaaGreatSwRatSa
import Derived.Test.YthkfkfbfblppeaaGreatSwRatLs
namespace Go.Proofs.YthkfkfbfblppeaaGreat
set_option linter.unusedSimpArgs false
set_option linter.unusedVariables false
open Go.RowKit
set_option maxHeartbeats 4000000 in
theorem refProduct6_any (va vb : Value) (a b : Rat) (w : World) (ha : RdR w va (rep a)) (hb : RdR w vb (rep b)) (sa : lenR (rep a) 2000) (sb : lenR (rep b) 2000) :
    Calls Tryz.prog 67 #[va, vb] w fun e w' => (∃ v, e = .returned v ∧ NewR w w' v (rep (a * b))) ∧ Ext w w' := by
  obtain ⟨a1, a2, a3, a4, rfl, han, had⟩ := ha.parts
  obtain ⟨b1, b2, b3, b4, rfl, hbn, hbd⟩ := hb.parts
  have hda := fun W (x : Ext w W) => den_any _ (rep a) W (ha.ext x)
  have hdb := fun W (x : Ext w W) => den_any _ (rep b) W (hb.ext x)
  have za : nv (dl (rep a).den) ≠ 0 := by rw [nv_repd]; exact a.den_nz
  have zb : nv (dl (rep b).den) ≠ 0 := by rw [nv_repd]; exact b.den_nz
  have ga := limR_rep a; have gb := limR_rep b
  have ka : (dl (rep a).den).length ≤ 2000 := len_dl sa.2 (by omega)
  have kb : (dl (rep b).den).length ≤ 2000 := len_dl sb.2 (by omega)
  have kan := sa.1; have kbn := sb.1
  have gda := lim_dl ga.2; have gdb := lim_dl gb.2
  have gna := ga.1; have gnb := gb.1
  have hr := prod_rep a b
  obtain ⟨P, hP⟩ : ∃ P, P = nv (rep a).num * nv (rep b).num := ⟨_, rfl⟩
  obtain ⟨D, hD⟩ : ∃ D, D = nv (dl (rep a).den) * nv (dl (rep b).den) := ⟨_, rfl⟩
  have hD0 : D ≠ 0 := by rw [hD]; exact Nat.mul_ne_zero za zb
  have hPl : (lim P).length ≤ 4000 := by rw [hP]; exact len_prod gna gnb kan kbn
  have hDl : (lim D).length ≤ 4000 := by rw [hD]; exact len_prod gda gdb ka kb
  have hp1 := fun W v1 v2 h1 h2 => prod_at (w := W) (va := v1) (vb := v2) h1 h2 gna gnb (by omega) (by omega)
  have hp2 := fun W v1 v2 h1 h2 => prod_at (w := W) (va := v1) (vb := v2) h1 h2 gda gdb (by omega) (by omega)
  rw [← hP] at hp1 hr
  rw [← hD] at hp2 hr
  have hmk := fun W v1 v2 h1 h2 => make_any ((rep a).neg != (rep b).neg) v1 v2 (lim P) (lim D) W h1 h2 (lim_lim _) (lim_lim _) (lim_noZ _) (lim_noZ _) (by omega) (by omega) (by rw [nv_lim]; exact hD0)
  rw [nv_lim, nv_lim, hr] at hmk
  obtain ⟨R, hR⟩ : ∃ R, R = rep (a * b) := ⟨_, rfl⟩
  rw [← hR] at hmk ⊢
  obtain ⟨ra, hra⟩ : ∃ r, r = rep a := ⟨_, rfl⟩
  obtain ⟨rb, hrb⟩ : ∃ r, r = rep b := ⟨_, rfl⟩
  rw [← hra] at han had hda hp1 hp2 hmk ⊢
  rw [← hrb] at hbn hbd hdb hp1 hp2 hmk ⊢
  obtain ⟨s1, l1, l2⟩ := ra
  obtain ⟨s2, l3, l4⟩ := rb
  dsimp only at han had hbn hbd hda hdb hp1 hp2 hmk ⊢
  have NA := Lib.hid han; have NB := Lib.hid hbn; have HDA := Lib.hid hda; have HDB := Lib.hid hdb; have HP1 := Lib.hid hp1; have HP2 := Lib.hid hp2; have HMK := Lib.hid hmk
  clear han had hbn hbd hda hdb hp1 hp2 hmk hr hP hD hR hra hrb ha hb sa sb ga gb gda gdb gna gnb ka kb kan kbn za zb hD0 hPl hDl
  have bb0 := (((Blk.new w #[.bool s1, .slice a1 l1.length a2, .slice a3 l2.length a4] 62).alloc (.cells #[.bool s2, .slice b1 l3.length b2, .slice b3 l4.length b4] 62)).alloc (.cells #[.bool false, .slice none 0 0, .slice none 0 0] 62))
  have bb1 := ((Blk.new (w.alloc (.cells #[.bool s1, .slice a1 l1.length a2, .slice a3 l2.length a4] 62)) #[.bool s2, .slice b1 l3.length b2, .slice b3 l4.length b4] 62).alloc (.cells #[.bool false, .slice none 0 0, .slice none 0 0] 62))
  have bb2 := (Blk.new ((w.alloc (.cells #[.bool s1, .slice a1 l1.length a2, .slice a3 l2.length a4] 62)).alloc (.cells #[.bool s2, .slice b1 l3.length b2, .slice b3 l4.length b4] 62)) #[.bool false, .slice none 0 0, .slice none 0 0] 62)
  rw [World.size_alloc] at bb1
  rw [World.size_alloc, World.size_alloc] at bb2
  have x0 : Ext w (((w.alloc (.cells #[.bool s1, .slice a1 l1.length a2, .slice a3 l2.length a4] 62)).alloc (.cells #[.bool s2, .slice b1 l3.length b2, .slice b3 l4.length b4] 62)).alloc (.cells #[.bool false, .slice none 0 0, .slice none 0 0] 62)) := ((((Ext.refl w).alloc _).alloc _).alloc _)
  have A0 := Lib.hid bb0; have A1 := Lib.hid bb1; have A2 := Lib.hid bb2; have X := Lib.hid x0
  clear x0 bb0 bb1 bb2
  have NA := Lib.hid (NA.out.ext X.out); have NB := Lib.hid (NB.out.ext X.out)
  go_enter Tryz.func67, Tryz.ntmps67
  go_wp2_with fail
  refine wp_region_held_drew (S := (fun W => (Blk W w.heap.size #[.bool s1, .slice a1 l1.length a2, .slice a3 l2.length a4] 62 ∧ W.cell? ⟨w.heap.size, 0, none⟩ = some (.bool s1) ∧ W.cell? ⟨w.heap.size, 1, none⟩ = some (.slice a1 l1.length a2) ∧ W.cell? ⟨w.heap.size, 2, none⟩ = some (.slice a3 l2.length a4)) ∧ (Blk W (w.heap.size + 1) #[.bool s2, .slice b1 l3.length b2, .slice b3 l4.length b4] 62 ∧ W.cell? ⟨(w.heap.size + 1), 0, none⟩ = some (.bool s2) ∧ W.cell? ⟨(w.heap.size + 1), 1, none⟩ = some (.slice b1 l3.length b2) ∧ W.cell? ⟨(w.heap.size + 1), 2, none⟩ = some (.slice b3 l4.length b4)))) (by kernel_rfl) ?_ (fun hHeld => ?_)
  · exact ⟨Blk.s3 A0.out.drew, Blk.s3 A1.out.drew⟩
  refine wpAnyH_take (i := 0) (v := ?_) rfl (by kernel_rfl) (by kernel_rfl) (by kernel_rfl) (fun _ _ _ h => h) (Or.inl ⟨by rfl, ?_⟩) (by assumption) ?_
  rotate_left
  · (intro w hSw; (try dsimp only at hSw); go_simp; first | done | with_reducible rfl)
  (try simp only [Act.put, List.getElem_toArray, List.getElem_cons_zero, List.getElem_cons_succ, List.setIfInBounds_toArray, List.set_cons_zero, List.set_cons_succ])
  refine wpAnyH_take (i := 1) (v := ?_) rfl (by kernel_rfl) (by kernel_rfl) (by kernel_rfl) (fun _ _ _ h => h) (Or.inl ⟨by rfl, ?_⟩) (by assumption) ?_
  rotate_left
  · (intro w hSw; (try dsimp only at hSw); go_simp; first | done | with_reducible rfl)
  (try simp only [Act.put, List.getElem_toArray, List.getElem_cons_zero, List.getElem_cons_succ, List.setIfInBounds_toArray, List.set_cons_zero, List.set_cons_succ])
  refine wpAnyH_take (i := 2) (v := ?_) rfl (by kernel_rfl) (by kernel_rfl) (by kernel_rfl) (fun _ _ _ h => h) (Or.inl ⟨by rfl, ?_⟩) (by assumption) ?_
  rotate_left
  · (intro w hSw; (try dsimp only at hSw); go_simp; first | done | with_reducible rfl)
  (try simp only [Act.put, List.getElem_toArray, List.getElem_cons_zero, List.getElem_cons_succ, List.setIfInBounds_toArray, List.set_cons_zero, List.set_cons_succ])
  refine wpAnyH_take (i := 3) (v := ?_) rfl (by kernel_rfl) (by kernel_rfl) (by kernel_rfl) (fun _ _ _ h => h) (Or.inl ⟨by rfl, ?_⟩) (by assumption) ?_
  rotate_left
  · (intro w hSw; (try dsimp only at hSw); go_simp; first | done | with_reducible rfl)
  (try simp only [Act.put, List.getElem_toArray, List.getElem_cons_zero, List.getElem_cons_succ, List.setIfInBounds_toArray, List.set_cons_zero, List.set_cons_succ])
  refine wpAnyH_take (i := 4) (v := ?_) rfl (by kernel_rfl) (by kernel_rfl) (by kernel_rfl) (fun _ _ _ h => h) (Or.inl ⟨by rfl, ?_⟩) (by assumption) ?_
  rotate_left
  · (intro w hSw; (try dsimp only at hSw); go_simp; first | done | with_reducible rfl)
  (try simp only [Act.put, List.getElem_toArray, List.getElem_cons_zero, List.getElem_cons_succ, List.setIfInBounds_toArray, List.set_cons_zero, List.set_cons_succ])
  refine wpAnyH_take (i := 5) (v := ?_) rfl (by kernel_rfl) (by kernel_rfl) (by kernel_rfl) (fun _ _ _ h => h) (Or.inl ⟨by rfl, ?_⟩) (by assumption) ?_
  rotate_left
  · (intro w hSw; (try dsimp only at hSw); go_simp; first | done | with_reducible rfl)
  (try simp only [Act.put, List.getElem_toArray, List.getElem_cons_zero, List.getElem_cons_succ, List.setIfInBounds_toArray, List.set_cons_zero, List.set_cons_succ])
  refine wpAnyH_take (i := 6) (v := ?_) rfl (by kernel_rfl) (by kernel_rfl) (by kernel_rfl) (fun _ _ _ h => h) (Or.inl ⟨by rfl, ?_⟩) (by assumption) ?_
  rotate_left
  · (intro w hSw; (try dsimp only at hSw); go_simp; first | done | with_reducible rfl)
  (try simp only [Act.put, List.getElem_toArray, List.getElem_cons_zero, List.getElem_cons_succ, List.setIfInBounds_toArray, List.set_cons_zero, List.set_cons_succ])
  refine wpAnyH_take (i := 7) (v := ?_) rfl (by kernel_rfl) (by kernel_rfl) (by kernel_rfl) (fun _ _ _ h => h) (Or.inl ⟨by rfl, ?_⟩) (by assumption) ?_
  rotate_left
  · (intro w hSw; (try dsimp only at hSw); go_simp; first | done | with_reducible rfl)
  (try simp only [Act.put, List.getElem_toArray, List.getElem_cons_zero, List.getElem_cons_succ, List.setIfInBounds_toArray, List.set_cons_zero, List.set_cons_succ])
  refine wpAnyH_take (i := 8) (v := ?_) rfl (by kernel_rfl) (by kernel_rfl) (by kernel_rfl) (fun _ _ _ h => h) (Or.inl ⟨by rfl, ?_⟩) (by assumption) ?_
  rotate_left
  · (intro w hSw; (try dsimp only at hSw); go_simp; first | done | with_reducible rfl)
  (try simp only [Act.put, List.getElem_toArray, List.getElem_cons_zero, List.getElem_cons_succ, List.setIfInBounds_toArray, List.set_cons_zero, List.set_cons_succ])
  refine wpAnyH_take (i := 10) (v := ?_) rfl (by kernel_rfl) (by kernel_rfl) (by kernel_rfl) (fun _ _ _ h => h) (Or.inl ⟨by rfl, ?_⟩) (by assumption) ?_
  rotate_left
  · (intro w hSw; (try dsimp only at hSw); go_simp; first | done | with_reducible rfl)
  (try simp only [Act.put, List.getElem_toArray, List.getElem_cons_zero, List.getElem_cons_succ, List.setIfInBounds_toArray, List.set_cons_zero, List.set_cons_succ])
  refine wpAnyH_take (i := 12) (v := ?_) rfl (by kernel_rfl) (by kernel_rfl) (by kernel_rfl) (fun _ _ _ h => h) (Or.inl ⟨by rfl, ?_⟩) (by assumption) ?_
  rotate_left
  · (intro w hSw; (try dsimp only at hSw); go_simp; first | done | with_reducible rfl)
  (try simp only [Act.put, List.getElem_toArray, List.getElem_cons_zero, List.getElem_cons_succ, List.setIfInBounds_toArray, List.set_cons_zero, List.set_cons_succ])
  refine wpAnyH_ready (rs := [9]) (by kernel_rfl) (by simp) ?_
  refine AllReadyH.cons rfl (fun K hK => ?_) ?_
  rotate_left
  · exact AllReadyH.nil
  go_simp
  refine (HP1.out _ _ _ (NA.out.ext (by first | exact Ext.refl _ | exact (Ext.refl _).drew)) (NB.out.ext (by first | exact Ext.refl _ | exact (Ext.refl _).drew))).mono ?_
  rintro e w1 ⟨⟨v, rfl, nn⟩, hx⟩
  have hx := Ext.trans (show Ext (((w.alloc (.cells #[.bool s1, .slice a1 l1.length a2, .slice a3 l2.length a4] 62)).alloc (.cells #[.bool s2, .slice b1 l3.length b2, .slice b3 l4.length b4] 62)).alloc (.cells #[.bool false, .slice none 0 0, .slice none 0 0] 62)) _ from by first | exact Ext.refl _ | exact (Ext.refl _).drew) hx
  have NA := Lib.hid (NA.out.ext hx); have NB := Lib.hid (NB.out.ext hx); have A0 := Lib.hid (A0.out.ext hx); have A1 := Lib.hid (A1.out.ext hx); have A2 := Lib.hid (A2.out.ext hx); have X := Lib.hid (X.out.trans hx)
  obtain ⟨p1, p2, rfl⟩ := nn.shape
  have Np := Lib.hid nn.rd
  clear nn hx
  first | refine hK.out _ _ ?_ (fun hHeld => ?_) | (go_wp2_with fail; refine hK.out _ _ ?_ (fun hHeld => ?_))
  · exact ⟨Blk.s3 A0.out, Blk.s3 A1.out⟩
  clear hK K
  (try simp only [Act.put, List.getElem_toArray, List.getElem_cons_zero, List.getElem_cons_succ, List.setIfInBounds_toArray, List.set_cons_zero, List.set_cons_succ])
  refine wpAnyH_ready (rs := [11]) (by kernel_rfl) (by simp) ?_
  refine AllReadyH.cons rfl (fun K hK => ?_) ?_
  rotate_left
  · exact AllReadyH.nil
  go_simp
  refine (HDA.out _ (Ext.trans X.out (by first | exact Ext.refl _ | exact (Ext.refl _).drew))).mono ?_
  rintro e w2 ⟨⟨v, rfl, nn⟩, hx⟩
  have hx := Ext.trans (show Ext w1 _ from by first | exact Ext.refl _ | exact (Ext.refl _).drew) hx
  have NA := Lib.hid (NA.out.ext hx); have NB := Lib.hid (NB.out.ext hx); have A0 := Lib.hid (A0.out.ext hx); have A1 := Lib.hid (A1.out.ext hx); have A2 := Lib.hid (A2.out.ext hx); have Np := Lib.hid (Np.out.ext hx); have X := Lib.hid (X.out.trans hx)
  obtain ⟨u1, u2, rfl⟩ := rdU_shape nn
  have Nu := Lib.hid nn
  clear nn hx
  first | refine hK.out _ _ ?_ (fun hHeld => ?_) | (go_wp2_with fail; refine hK.out _ _ ?_ (fun hHeld => ?_))
  · exact ⟨Blk.s3 A0.out, Blk.s3 A1.out⟩
  clear hK K
  (try simp only [Act.put, List.getElem_toArray, List.getElem_cons_zero, List.getElem_cons_succ, List.setIfInBounds_toArray, List.set_cons_zero, List.set_cons_succ])
  refine wpAnyH_ready (rs := [13]) (by kernel_rfl) (by simp) ?_
  refine AllReadyH.cons rfl (fun K hK => ?_) ?_
  rotate_left
  · exact AllReadyH.nil
  go_simp
  refine (HDB.out _ (Ext.trans X.out (by first | exact Ext.refl _ | exact (Ext.refl _).drew))).mono ?_
  rintro e w3 ⟨⟨v, rfl, nn⟩, hx⟩
  have hx := Ext.trans (show Ext w2 _ from by first | exact Ext.refl _ | exact (Ext.refl _).drew) hx
  have NA := Lib.hid (NA.out.ext hx); have NB := Lib.hid (NB.out.ext hx); have A0 := Lib.hid (A0.out.ext hx); have A1 := Lib.hid (A1.out.ext hx); have A2 := Lib.hid (A2.out.ext hx); have Np := Lib.hid (Np.out.ext hx); have Nu := Lib.hid (Nu.out.ext hx); have X := Lib.hid (X.out.trans hx)
  obtain ⟨t1, t2, rfl⟩ := rdU_shape nn
  have Nt := Lib.hid nn
  clear nn hx
  first | refine hK.out _ _ ?_ (fun hHeld => ?_) | (go_wp2_with fail; refine hK.out _ _ ?_ (fun hHeld => ?_))
  · exact ⟨Blk.s3 A0.out, Blk.s3 A1.out⟩
  clear hK K
  (try simp only [Act.put, List.getElem_toArray, List.getElem_cons_zero, List.getElem_cons_succ, List.setIfInBounds_toArray, List.set_cons_zero, List.set_cons_succ])
  refine wpAnyH_ready (rs := [14]) (by kernel_rfl) (by simp) ?_
  refine AllReadyH.cons rfl (fun K hK => ?_) ?_
  rotate_left
  · exact AllReadyH.nil
  go_simp
  refine (HP2.out _ _ _ Nu.out Nt.out).mono ?_
  rintro e w4 ⟨⟨v, rfl, nn⟩, hx⟩
  have hx := Ext.trans (show Ext w3 _ from by first | exact Ext.refl _ | exact (Ext.refl _).drew) hx
  have NA := Lib.hid (NA.out.ext hx); have NB := Lib.hid (NB.out.ext hx); have A0 := Lib.hid (A0.out.ext hx); have A1 := Lib.hid (A1.out.ext hx); have A2 := Lib.hid (A2.out.ext hx); have Np := Lib.hid (Np.out.ext hx); have Nu := Lib.hid (Nu.out.ext hx); have Nt := Lib.hid (Nt.out.ext hx); have X := Lib.hid (X.out.trans hx)
  obtain ⟨d1, d2, rfl⟩ := nn.shape
  have Nd := Lib.hid nn.rd
  clear nn hx
  first | refine hK.out _ _ ?_ (fun hHeld => ?_) | (go_wp2_with fail; refine hK.out _ _ ?_ (fun hHeld => ?_))
  · exact ⟨Blk.s3 A0.out, Blk.s3 A1.out⟩
  clear hK K
  (try simp only [Act.put, List.getElem_toArray, List.getElem_cons_zero, List.getElem_cons_succ, List.setIfInBounds_toArray, List.set_cons_zero, List.set_cons_succ])
  have x6 := X.out
  refine wpAnyH_ready (rs := [15]) (by kernel_rfl) (by simp) ?_
  refine AllReadyH.cons rfl (fun K hK => ?_) ?_
  rotate_left
  · exact AllReadyH.nil
  go_simp
  refine (HMK.out _ _ _ (Np.out.ext (by first | exact Ext.refl _ | exact (Ext.refl _).drew)) Nd.out).mono ?_
  rintro e w5 ⟨⟨v, rfl, nn⟩, hx⟩
  have hx := Ext.trans (show Ext w4 _ from by first | exact Ext.refl _ | exact (Ext.refl _).drew) hx
  have NA := Lib.hid (NA.out.ext hx); have NB := Lib.hid (NB.out.ext hx); have A0 := Lib.hid (A0.out.ext hx); have A1 := Lib.hid (A1.out.ext hx); have A2 := Lib.hid (A2.out.ext hx); have Np := Lib.hid (Np.out.ext hx); have Nu := Lib.hid (Nu.out.ext hx); have Nt := Lib.hid (Nt.out.ext hx); have Nd := Lib.hid (Nd.out.ext hx); have X := Lib.hid (X.out.trans hx)
  obtain ⟨r1, r2, r3, r4, rfl⟩ := nn.shape
  have Nr := Lib.hid nn.rd
  have Or := Lib.hid (nn.from (x6))
  clear nn hx
  first | refine hK.out _ _ ?_ (fun hHeld => ?_) | (go_wp2_with fail; refine hK.out _ _ ?_ (fun hHeld => ?_))
  · exact ⟨Blk.s3 A0.out, Blk.s3 A1.out⟩
  clear hK K
  (try simp only [Act.put, List.getElem_toArray, List.getElem_cons_zero, List.getElem_cons_succ, List.setIfInBounds_toArray, List.set_cons_zero, List.set_cons_succ])
  have q2 := A2.out.cell; have f2 := A2.out.free; have l2' := A2.out.lt
  refine wpAnyH_ready (rs := [16]) (by kernel_rfl) (by simp) ?_
  refine AllReadyH.cons rfl (fun K hK => ?_) ?_
  rotate_left
  · exact AllReadyH.nil
  go_simp
  first | refine hK.out _ _ ?_ (fun hHeld => ?_) | (go_wp2_with fail; refine hK.out _ _ ?_ (fun hHeld => ?_))
  · ((try dsimp only); (refine ⟨Blk.s3 ?_, Blk.s3 ?_⟩ <;> (repeat (first | exact A0.out | exact A1.out | refine Blk.setOther ?_ (by dsimp only; omega) _ | refine Blk.alloc ?_ _ | refine Blk.drew ?_))))
  clear hK K
  (try simp only [Act.put, List.getElem_toArray, List.getElem_cons_zero, List.getElem_cons_succ, List.setIfInBounds_toArray, List.set_cons_zero, List.set_cons_succ])
  refine wpAnyH_done (by kernel_rfl) ?_ _
  go_wp2_with fail
  refine bodyPost_ret (v := .agg #[.bool R.neg, .slice r1 R.num.length r2, .slice r3 R.den.length r4]) (by simp only [results, Tryz.results67]; go_simp) rfl ⟨⟨_, rfl, NewR.set3 Or.out A2.out (by decide) _ _ _⟩, ?_⟩
  have := X.out; (repeat (first | (with_reducible exact Ext.refl _) | (with_reducible assumption) | (with_reducible refine Ext.alloc ?_ _) | ((with_reducible refine Ext.setp ?_ ?_); focus (dsimp only; omega)) | (with_reducible refine Ext.drew ?_) | (with_reducible refine Ext.drewN ?_ _) | (with_reducible refine Ext.trans ?_ (by assumption))))
end Go.Proofs.YthkfkfbfblppeaaGreat
