/- Part of the proof of ivalL_holds: what the row needs of RatDu. Conditions: as each theorem states. -/
import Derived.Test.YtlbppdgijjbjbaaGreatSvRatDt
import Derived.Test.YtlbppdgijjbjbaaGreatSvRatSc
namespace Go.Proofs.YtlbppdgijjbjbaaGreat
set_option linter.unusedSimpArgs false
set_option linter.unusedVariables false
open Go.RowKit
theorem fitR_chk {q : Rat} (h : (fitR q).2 = 0) : chkR (fitR q).1 = 0 := by
  unfold fitR at h ⊢
  by_cases hs : small q
  · rw [if_pos hs]; exact chk_rep hs
  · rw [if_neg hs] at h; cases h
theorem addR_chk {a b : RR} (h : (addR a b).2 = 0) : chkR (addR a b).1 = 0 := by
  unfold addR opR at h ⊢
  by_cases hc : chkR2 a b = 0
  · rw [if_pos hc] at h ⊢; exact fitR_chk h
  · rw [if_neg hc] at h; exact absurd h hc
theorem addR_zero {r : RR} (hl : LimR r) (h : chkR r = 0) : addR zR r = (r, 0) := by
  unfold addR opR
  rw [if_pos (chkR2_ok (by decide) h)]
  have e : qv zR + qv r = qv r := by rw [show qv zR = 0 from by rw [← rep_zero, qv_rep], Rat.zero_add]
  rw [e, fitR_ok (valid_small hl h), (valid_rep hl h).2.2]
theorem fitR_pair (q : Rat) : fitR q = if (fitR q).2 = 0 then ((fitR q).1, 0) else (zR, (fitR q).2) := by
  unfold fitR; split <;> rfl
theorem addR_pair (a b : RR) : addR a b = if (addR a b).2 = 0 then ((addR a b).1, 0) else (zR, (addR a b).2) := by
  unfold addR opR
  by_cases hc : chkR2 a b = 0
  · rw [if_pos hc]; exact fitR_pair _
  · rw [if_neg hc, if_neg (show ¬ (zR, chkR2 a b).2 = 0 from hc)]
theorem addL_two {r p : RR} (hl : LimR r) (h : chkR r = 0) : addL zR [r, p] = addR r p := by
  unfold addL
  rw [addR_zero hl h, if_pos rfl]
  unfold addL
  rw [addR_pair]
  by_cases e : (addR r p).2 = 0
  · simp only [e, if_true]; rfl
  · simp only [e, if_false]
set_option maxRecDepth 100000 in
set_option maxHeartbeats 4000000 in
theorem refDotR_any (va vb : Value) (la lb : List RR) (w : World) (ha : RdRs w va la) (hb : RdRs w vb lb) (hla : LimL la) (hlb : LimL lb) :
    Calls Tryz.prog 46 #[va, vb] w fun e w' => ResR w w' e (dotR la lb) ∧ Ext w w' := by
  obtain ⟨aa, ca, rfl, hac, ham, f, hf⟩ := ha.get
  obtain ⟨ab, cb, rfl, hbc, hbm, g, hg⟩ := hb.get
  have HF := Lib.hid hf; have HG := Lib.hid hg; have HLA := Lib.hid hla; have HLB := Lib.hid hlb
  clear ha hb hf hg hla hlb
  have gla : (la.length : Int) ≤ 9223372036854775807 := by omega
  have glb : (lb.length : Int) ≤ 9223372036854775807 := by omega
  by_cases hlen : la.length = lb.length
  · have hr0 : dotR la lb = dotL zR la lb := if_pos hlen
    have HR0 := Lib.hid hr0; clear hr0
    have hlz : (la.length : Int) = (lb.length : Int) := by omega
    have q0 : ((la.length : Int) != (lb.length : Int)) = false := by simp [hlz]
    have HLEN := Lib.hid hlen
    clear hlen hlz
    have bb0 := ((Blk.new w #[.bool false, .slice none 0 0, .slice none 0 0] 33).alloc (.cells #[.bool false, .slice none 0 0, .slice none 0 0] 33))
    have bb1 := (Blk.new (w.alloc (.cells #[.bool false, .slice none 0 0, .slice none 0 0] 33)) #[.bool false, .slice none 0 0, .slice none 0 0] 33)
    rw [World.size_alloc] at bb1
    have x0 : Ext w ((w.alloc (.cells #[.bool false, .slice none 0 0, .slice none 0 0] 33)).alloc (.cells #[.bool false, .slice none 0 0, .slice none 0 0] 33)) := (((Ext.refl w).alloc _).alloc _)
    have A0 := Lib.hid bb0; have A1 := Lib.hid bb1; have X := Lib.hid x0
    clear x0 bb0 bb1
    have Z0 : Hid (NewR w ((w.alloc (.cells #[.bool false, .slice none 0 0, .slice none 0 0] 33)).alloc (.cells #[.bool false, .slice none 0 0, .slice none 0 0] 33)) (.agg #[.bool false, .slice none 0 0, .slice none 0 0]) zR) := Lib.hid (NewR.zero _ _)
    go_enter Tryz.func46, Tryz.ntmps46
    go_wp2_with fail
    go_loopw [7] (fun i wr => ∃ (k : Nat) (r : RR) (a1 : Option Addr) (c1 : Nat) (a2 : Option Addr) (c2 : Nat), k ≤ la.length ∧ i = .int .i64 k ∧ LimR r ∧ chkR r = 0 ∧ dotL zR la lb = dotL r (la.drop k) (lb.drop k) ∧ Ext w wr ∧ Blk wr w.heap.size #[.bool false, .slice none 0 0, .slice none 0 0] 33 ∧ Blk wr (w.heap.size + 1) #[.bool r.neg, .slice a1 r.num.length c1, .slice a2 r.den.length c2] 33 ∧ NewR w wr (.agg #[.bool r.neg, .slice a1 r.num.length c1, .slice a2 r.den.length c2]) r) (fun i _ => la.length - (intOf i).toNat)
    case atStart => exact ⟨0, zR, none, 0, none, 0, Nat.zero_le _, rfl, zR_lim, by decide, rfl, X.out, A0.out, A1.out, Z0.out⟩
    case round =>
      obtain ⟨k, r, a1, c1, a2, c2, hk, rfl, hrl, hrc, hsum, hx, hblk, hblk1, hnew⟩ := hrel
      clear A0 A1 X Z0
      have HS := Lib.hid hsum; have X := Lib.hid hx; have A0 := Lib.hid hblk; have A1 := Lib.hid hblk1; have NR := Lib.hid hnew; have RL := Lib.hid hrl; have RC := Lib.hid hrc
      clear hsum hx hblk hblk1 hnew hrl hrc
      by_cases hlt : k < la.length
      · have hlt2 : k < lb.length := by have := HLEN.out; omega
        obtain ⟨ba, oa, rfl, hba, x0, x1, x2, rx⟩ := HF.out k hlt
        obtain ⟨bb, ob, rfl, hbb, y0, y1, y2, ry⟩ := HG.out k hlt2
        have lx := HLA.out k hlt
        have ly := HLB.out k hlt2
        have hst := dotL_step (s := r) hlt hlt2
        rw [← HS.out] at hst
        generalize la.getD k zR = x at x0 x1 x2 rx lx hst
        generalize lb.getD k zR = y at y0 y1 y2 ry ly hst
        generalize f k = fk at x0 x1 x2 rx
        generalize g k = gk at y0 y1 y2 ry
        obtain ⟨⟨p1, p2⟩, ⟨p3, p4⟩⟩ := fk
        obtain ⟨⟨g1, g2⟩, ⟨g3, g4⟩⟩ := gk
        dsimp only at x0 x1 x2 rx y0 y1 y2 ry
        have EA : Hid (RdAt w ba (oa + k * 3) x p1 p2 p3 p4) := Lib.hid ⟨hba, x0, x1, x2⟩
        have EB : Hid (RdAt w bb (ob + k * 3) y g1 g2 g3 g4) := Lib.hid ⟨hbb, y0, y1, y2⟩
        have l1 : ba < wr.heap.size := Nat.lt_of_lt_of_le hba X.out.size
        have l2 : bb < wr.heap.size := Nat.lt_of_lt_of_le hbb X.out.size
        have RX := Lib.hid (rx.ext X.out); have RY := Lib.hid (ry.ext X.out); have LX := Lib.hid lx; have LY := Lib.hid ly; have HST := Lib.hid hst
        have q1 : (0 : Int) ≤ (k : Int) := by omega
        have q2 : (k : Int) < (la.length : Int) := by omega
        have q3 : (k : Int) < (lb.length : Int) := by omega
        clear x0 x1 x2 rx lx y0 y1 y2 ry ly hst hba hbb q0
        go_wp2_with fail
        have X0 := X
        refine wp_region_held_drew (S := (fun W => (W.cell? ⟨ba, oa + k * 3, none⟩ = some (.bool x.neg) ∧ W.cell? ⟨ba, oa + k * 3 + 1, none⟩ = some (.slice p1 x.num.length p2) ∧ W.cell? ⟨ba, oa + k * 3 + 2, none⟩ = some (.slice p3 x.den.length p4)) ∧ (W.cell? ⟨bb, ob + k * 3, none⟩ = some (.bool y.neg) ∧ W.cell? ⟨bb, ob + k * 3 + 1, none⟩ = some (.slice g1 y.num.length g2) ∧ W.cell? ⟨bb, ob + k * 3 + 2, none⟩ = some (.slice g3 y.den.length g4)))) (by kernel_rfl) ?_ (fun hHeld => ?_)
        · exact ⟨EA.out.c3 (by have x9 := X.out; (repeat (first | (with_reducible exact Ext.refl _) | (with_reducible assumption) | (with_reducible refine Ext.alloc ?_ _) | ((with_reducible refine Ext.setp ?_ ?_); focus (dsimp only; omega)) | (with_reducible refine Ext.drew ?_) | (with_reducible refine Ext.drewN ?_ _) | (with_reducible refine Ext.trans ?_ (by assumption))))), EB.out.c3 (by have x9 := X.out; (repeat (first | (with_reducible exact Ext.refl _) | (with_reducible assumption) | (with_reducible refine Ext.alloc ?_ _) | ((with_reducible refine Ext.setp ?_ ?_); focus (dsimp only; omega)) | (with_reducible refine Ext.drew ?_) | (with_reducible refine Ext.drewN ?_ _) | (with_reducible refine Ext.trans ?_ (by assumption)))))⟩
        refine wpAnyH_take (i := 0) (v := ?_) rfl (by kernel_rfl) (by kernel_rfl) (by kernel_rfl) (fun _ _ _ h => h) (Or.inl ⟨by rfl, ?_⟩) (by assumption) ?_
        rotate_left
        · (intro w hSw; (try dsimp only at hSw); go_simp; first | done | with_reducible rfl)
        (try simp only [Act.put, List.getElem_toArray, List.getElem_cons_zero, List.getElem_cons_succ, List.setIfInBounds_toArray, List.set_cons_zero, List.set_cons_succ])
        refine wpAnyH_take (i := 1) (v := ?_) rfl (by kernel_rfl) (by kernel_rfl) (by kernel_rfl) (fun _ _ _ h => h) (Or.inl ⟨by rfl, ?_⟩) (by assumption) ?_
        rotate_left
        · (intro w hSw; (try dsimp only at hSw); go_simp; first | done | with_reducible rfl)
        (try simp only [Act.put, List.getElem_toArray, List.getElem_cons_zero, List.getElem_cons_succ, List.setIfInBounds_toArray, List.set_cons_zero, List.set_cons_succ])
        refine wpAnyH_take (i := 2) (v := ?_) rfl (by kernel_rfl) (by kernel_rfl) (by kernel_rfl) (fun _ _ _ h => h) (Or.inl ⟨by rfl, ?_⟩) (by assumption) ?_
        rotate_left
        · (intro w hSw; (try dsimp only at hSw); go_simp; first | done | with_reducible rfl)
        (try simp only [Act.put, List.getElem_toArray, List.getElem_cons_zero, List.getElem_cons_succ, List.setIfInBounds_toArray, List.set_cons_zero, List.set_cons_succ])
        refine wpAnyH_take (i := 3) (v := ?_) rfl (by kernel_rfl) (by kernel_rfl) (by kernel_rfl) (fun _ _ _ h => h) (Or.inl ⟨by rfl, ?_⟩) (by assumption) ?_
        rotate_left
        · (intro w hSw; (try dsimp only at hSw); go_simp; first | done | with_reducible rfl)
        (try simp only [Act.put, List.getElem_toArray, List.getElem_cons_zero, List.getElem_cons_succ, List.setIfInBounds_toArray, List.set_cons_zero, List.set_cons_succ])
        refine wpAnyH_take (i := 4) (v := ?_) rfl (by kernel_rfl) (by kernel_rfl) (by kernel_rfl) (fun _ _ _ h => h) (Or.inl ⟨by rfl, ?_⟩) (by assumption) ?_
        rotate_left
        · (intro w hSw; (try dsimp only at hSw); go_simp; first | done | with_reducible rfl)
        (try simp only [Act.put, List.getElem_toArray, List.getElem_cons_zero, List.getElem_cons_succ, List.setIfInBounds_toArray, List.set_cons_zero, List.set_cons_succ])
        refine wpAnyH_take (i := 5) (v := ?_) rfl (by kernel_rfl) (by kernel_rfl) (by kernel_rfl) (fun _ _ _ h => h) (Or.inl ⟨by rfl, ?_⟩) (by assumption) ?_
        rotate_left
        · (intro w hSw; (try dsimp only at hSw); go_simp; first | done | with_reducible rfl)
        (try simp only [Act.put, List.getElem_toArray, List.getElem_cons_zero, List.getElem_cons_succ, List.setIfInBounds_toArray, List.set_cons_zero, List.set_cons_succ])
        refine wpAnyH_take (i := 6) (v := ?_) rfl (by kernel_rfl) (by kernel_rfl) (by kernel_rfl) (fun _ _ _ h => h) (Or.inl ⟨by rfl, ?_⟩) (by assumption) ?_
        rotate_left
        · (intro w hSw; (try dsimp only at hSw); go_simp; first | done | with_reducible rfl)
        (try simp only [Act.put, List.getElem_toArray, List.getElem_cons_zero, List.getElem_cons_succ, List.setIfInBounds_toArray, List.set_cons_zero, List.set_cons_succ])
        refine wpAnyH_take (i := 7) (v := ?_) rfl (by kernel_rfl) (by kernel_rfl) (by kernel_rfl) (fun _ _ _ h => h) (Or.inl ⟨by rfl, ?_⟩) (by assumption) ?_
        rotate_left
        · (intro w hSw; (try dsimp only at hSw); go_simp; first | done | with_reducible rfl)
        (try simp only [Act.put, List.getElem_toArray, List.getElem_cons_zero, List.getElem_cons_succ, List.setIfInBounds_toArray, List.set_cons_zero, List.set_cons_succ])
        refine wpAnyH_ready (rs := [8, 12]) (by kernel_rfl) (by simp) ?_
        refine AllReadyH.cons rfl (fun K hK => ?_) (AllReadyH.cons rfl (fun K hK => ?_) AllReadyH.nil)
        · go_simp
          have XO := X
          refine (refMulR_any _ _ x y _ (RX.out.ext (by first | exact Ext.refl _ | exact (Ext.refl _).drew)) (RY.out.ext (by first | exact Ext.refl _ | exact (Ext.refl _).drew)) LX.out LY.out).mono ?_
          rintro e w1 ⟨⟨v, rfl, nn⟩, hx⟩
          have hx := Ext.trans (show Ext wr _ from by first | exact Ext.refl _ | exact (Ext.refl _).drew) hx
          have A0 := Lib.hid (A0.out.ext hx); have A1 := Lib.hid (A1.out.ext hx); have NR := Lib.hid (NR.out.ext hx); have RX := Lib.hid (RX.out.ext hx); have RY := Lib.hid (RY.out.ext hx); have X := Lib.hid (X.out.trans hx)
          obtain ⟨m1, m2, m3, m4, rfl⟩ := nn.shape
          have Nm := Lib.hid nn.rd
          have Om := Lib.hid (nn.from ((show Ext w _ from by have x9 := XO.out; (repeat (first | (with_reducible exact Ext.refl _) | (with_reducible assumption) | (with_reducible refine Ext.alloc ?_ _) | ((with_reducible refine Ext.setp ?_ ?_); focus (dsimp only; omega)) | (with_reducible refine Ext.drew ?_) | (with_reducible refine Ext.drewN ?_ _) | (with_reducible refine Ext.trans ?_ (by assumption)))))))
          clear nn hx
          first | refine hK.out _ _ ?_ (fun hHeld => ?_) | (go_wp2_with fail; refine hK.out _ _ ?_ (fun hHeld => ?_))
          · exact ⟨EA.out.c3 (by have x9 := X.out; (repeat (first | (with_reducible exact Ext.refl _) | (with_reducible assumption) | (with_reducible refine Ext.alloc ?_ _) | ((with_reducible refine Ext.setp ?_ ?_); focus (dsimp only; omega)) | (with_reducible refine Ext.drew ?_) | (with_reducible refine Ext.drewN ?_ _) | (with_reducible refine Ext.trans ?_ (by assumption))))), EB.out.c3 (by have x9 := X.out; (repeat (first | (with_reducible exact Ext.refl _) | (with_reducible assumption) | (with_reducible refine Ext.alloc ?_ _) | ((with_reducible refine Ext.setp ?_ ?_); focus (dsimp only; omega)) | (with_reducible refine Ext.drew ?_) | (with_reducible refine Ext.drewN ?_ _) | (with_reducible refine Ext.trans ?_ (by assumption)))))⟩
          clear hK K
          (try simp only [Act.put, List.getElem_toArray, List.getElem_cons_zero, List.getElem_cons_succ, List.setIfInBounds_toArray, List.set_cons_zero, List.set_cons_succ])
          refine wpAnyH_take (i := 9) (v := ?_) rfl (by kernel_rfl) (by kernel_rfl) (by kernel_rfl) (fun _ _ _ h => h) (Or.inl ⟨by rfl, ?_⟩) (by assumption) ?_
          rotate_left
          · (intro w hSw; (try dsimp only at hSw); go_simp; first | done | with_reducible rfl)
          (try simp only [Act.put, List.getElem_toArray, List.getElem_cons_zero, List.getElem_cons_succ, List.setIfInBounds_toArray, List.set_cons_zero, List.set_cons_succ])
          refine wpAnyH_take (i := 10) (v := ?_) rfl (by kernel_rfl) (by kernel_rfl) (by kernel_rfl) (fun _ _ _ h => h) (Or.inl ⟨by rfl, ?_⟩) (by assumption) ?_
          rotate_left
          · (intro w hSw; (try dsimp only at hSw); go_simp; first | done | with_reducible rfl)
          (try simp only [Act.put, List.getElem_toArray, List.getElem_cons_zero, List.getElem_cons_succ, List.setIfInBounds_toArray, List.set_cons_zero, List.set_cons_succ])
          refine wpAnyH_take (i := 11) (v := ?_) rfl (by kernel_rfl) (by kernel_rfl) (by kernel_rfl) (fun _ _ _ h => h) (Or.inl ⟨by rfl, ?_⟩) (by assumption) ?_
          rotate_left
          · (intro w hSw; (try dsimp only at hSw); go_simp; first | done | with_reducible rfl)
          (try simp only [Act.put, List.getElem_toArray, List.getElem_cons_zero, List.getElem_cons_succ, List.setIfInBounds_toArray, List.set_cons_zero, List.set_cons_succ])
          refine wpAnyH_ready (rs := [12]) (by kernel_rfl) (by simp) ?_
          refine AllReadyH.cons rfl (fun K hK => ?_) ?_
          rotate_left
          · exact AllReadyH.nil
          go_simp
          have hx : Ext w1 ((w1.alloc (.cells #[.bool false, .slice none 0 0, .slice none 0 0] 33))) := (Ext.refl _).alloc _
          have bz : Blk ((w1.alloc (.cells #[.bool false, .slice none 0 0, .slice none 0 0] 33))) (w1.heap.size) #[.bool false, .slice none 0 0, .slice none 0 0] 33 := by have hh := (Blk.new w1 #[.bool false, .slice none 0 0, .slice none 0 0] 33); (try simp only [World.size_alloc] at hh); exact hh
          obtain ⟨w2, hww2⟩ : ∃ W, W = (w1.alloc (.cells #[.bool false, .slice none 0 0, .slice none 0 0] 33)) := ⟨_, rfl⟩
          rw [← hww2] at hx bz ⊢
          obtain ⟨APn, hAPn⟩ : ∃ n, n = w1.heap.size := ⟨_, rfl⟩
          have HAPA0 : Hid (w.heap.size < APn) := Lib.hid (by have hh := A0.out.lt; (try simp only [World.size_alloc] at hh); omega)
          have HAPA1 : Hid (w.heap.size + 1 < APn) := Lib.hid (by have hh := A1.out.lt; (try simp only [World.size_alloc] at hh); omega)
          have WAP : Hid (w.heap.size ≤ APn) := Lib.hid (by have hh := X.out.size; (try simp only [World.size_alloc] at hh); omega)
          rw [← hAPn] at bz ⊢
          have A0 := Lib.hid (A0.out.ext hx); have A1 := Lib.hid (A1.out.ext hx); have NR := Lib.hid (NR.out.ext hx); have RX := Lib.hid (RX.out.ext hx); have RY := Lib.hid (RY.out.ext hx); have Nm := Lib.hid (Nm.out.ext hx); have Om := Lib.hid (Om.out.ext hx); have X := Lib.hid (X.out.trans hx)
          have AP := Lib.hid bz
          clear hx bz hww2 hAPn
          first | refine hK.out _ _ ?_ (fun hHeld => ?_) | (go_wp2_with fail; refine hK.out _ _ ?_ (fun hHeld => ?_))
          · exact ⟨EA.out.c3 (by have x9 := X.out; (repeat (first | (with_reducible exact Ext.refl _) | (with_reducible assumption) | (with_reducible refine Ext.alloc ?_ _) | ((with_reducible refine Ext.setp ?_ ?_); focus (dsimp only; omega)) | (with_reducible refine Ext.drew ?_) | (with_reducible refine Ext.drewN ?_ _) | (with_reducible refine Ext.trans ?_ (by assumption))))), EB.out.c3 (by have x9 := X.out; (repeat (first | (with_reducible exact Ext.refl _) | (with_reducible assumption) | (with_reducible refine Ext.alloc ?_ _) | ((with_reducible refine Ext.setp ?_ ?_); focus (dsimp only; omega)) | (with_reducible refine Ext.drew ?_) | (with_reducible refine Ext.drewN ?_ _) | (with_reducible refine Ext.trans ?_ (by assumption)))))⟩
          clear hK K
          (try simp only [Act.put, List.getElem_toArray, List.getElem_cons_zero, List.getElem_cons_succ, List.setIfInBounds_toArray, List.set_cons_zero, List.set_cons_succ])
          have qAP := AP.out.cell; have fAP := AP.out.free; have lAP := AP.out.lt
          refine wpAnyH_ready (rs := [13]) (by kernel_rfl) (by simp) ?_
          refine AllReadyH.cons rfl (fun K hK => ?_) ?_
          rotate_left
          · exact AllReadyH.nil
          go_simp
          first | refine hK.out _ _ ?_ (fun hHeld => ?_) | (go_wp2_with fail; refine hK.out _ _ ?_ (fun hHeld => ?_))
          · ((try dsimp only); exact ⟨EA.out.c3 (by have x9 := X.out; have z9 := WAP.out; (repeat (first | (with_reducible exact Ext.refl _) | (with_reducible assumption) | (with_reducible refine Ext.alloc ?_ _) | ((with_reducible refine Ext.setp ?_ ?_); focus (dsimp only; omega)) | (with_reducible refine Ext.drew ?_) | (with_reducible refine Ext.drewN ?_ _) | (with_reducible refine Ext.trans ?_ (by assumption))))), EB.out.c3 (by have x9 := X.out; have z9 := WAP.out; (repeat (first | (with_reducible exact Ext.refl _) | (with_reducible assumption) | (with_reducible refine Ext.alloc ?_ _) | ((with_reducible refine Ext.setp ?_ ?_); focus (dsimp only; omega)) | (with_reducible refine Ext.drew ?_) | (with_reducible refine Ext.drewN ?_ _) | (with_reducible refine Ext.trans ?_ (by assumption)))))⟩)
          clear hK K
          (try simp only [Act.put, List.getElem_toArray, List.getElem_cons_zero, List.getElem_cons_succ, List.setIfInBounds_toArray, List.set_cons_zero, List.set_cons_succ])
          refine wpAnyH_take (i := 14) (v := ?_) rfl (by kernel_rfl) (by kernel_rfl) (by kernel_rfl) (fun _ _ _ h => h) (Or.inl ⟨by rfl, ?_⟩) (by assumption) ?_
          rotate_left
          · (intro w hSw; (try dsimp only at hSw); go_simp; first | done | with_reducible rfl)
          (try simp only [Act.put, List.getElem_toArray, List.getElem_cons_zero, List.getElem_cons_succ, List.setIfInBounds_toArray, List.set_cons_zero, List.set_cons_succ])
          refine wpAnyH_done (by kernel_rfl) ?_ _
          clear qAP fAP lAP
          have hne : w.heap.size ≠ APn := Nat.ne_of_lt HAPA0.out; have hne1 : w.heap.size + 1 ≠ APn := Nat.ne_of_lt HAPA1.out
          have hap := AP.out.all3 (.bool (mulR x y).1.neg) (.slice m1 (mulR x y).1.num.length m2) (.slice m3 (mulR x y).1.den.length m4)
          have hq0 := Om.out.set3 AP.out (by decide) (.bool (mulR x y).1.neg) (.slice m1 (mulR x y).1.num.length m2) (.slice m3 (mulR x y).1.den.length m4)
          have hq1 := NR.out.set3 AP.out (by decide) (.bool (mulR x y).1.neg) (.slice m1 (mulR x y).1.num.length m2) (.slice m3 (mulR x y).1.den.length m4)
          have hq2 := ((A0.out.setOther (a := ⟨APn, 0, none⟩) hne (.bool (mulR x y).1.neg)).setOther (a := ⟨APn, 1, none⟩) hne (.slice m1 (mulR x y).1.num.length m2)).setOther (a := ⟨APn, 2, none⟩) hne (.slice m3 (mulR x y).1.den.length m4)
          have hq3 := ((A1.out.setOther (a := ⟨APn, 0, none⟩) hne1 (.bool (mulR x y).1.neg)).setOther (a := ⟨APn, 1, none⟩) hne1 (.slice m1 (mulR x y).1.num.length m2)).setOther (a := ⟨APn, 2, none⟩) hne1 (.slice m3 (mulR x y).1.den.length m4)
          have hx6 : Ext w (((w2.setCell ⟨APn, 0, none⟩ (.bool (mulR x y).1.neg)).setCell ⟨APn, 1, none⟩ (.slice m1 (mulR x y).1.num.length m2)).setCell ⟨APn, 2, none⟩ (.slice m3 (mulR x y).1.den.length m4)) := (((X.out.set (p := ⟨APn, 0, none⟩) WAP.out _).set (p := ⟨APn, 1, none⟩) WAP.out _).set (p := ⟨APn, 2, none⟩) WAP.out _)
          obtain ⟨wz, hwz⟩ : ∃ W, W = (((w2.setCell ⟨APn, 0, none⟩ (.bool (mulR x y).1.neg)).setCell ⟨APn, 1, none⟩ (.slice m1 (mulR x y).1.num.length m2)).setCell ⟨APn, 2, none⟩ (.slice m3 (mulR x y).1.den.length m4)) := ⟨_, rfl⟩
          rw [← hwz] at hap hq0 hq1 hq2 hq3 hx6 ⊢
          clear hwz
          have AP := Lib.hid hap; have Om := Lib.hid hq0; have NR := Lib.hid hq1; have A0 := Lib.hid hq2; have A1 := Lib.hid hq3; have X := Lib.hid hx6
          clear hap hq0 hq1 hq2 hq3 hx6
          clear hne hne1
          have PL := Lib.hid (mulR_lim x y)
          obtain ⟨p, e, hp⟩ : ∃ p e, mulR x y = (p, e) := ⟨_, _, rfl⟩
          rw [hp] at HST AP Om PL ⊢
          dsimp only at HST AP Om PL ⊢
          clear hp
          by_cases he : e = 0
          · subst he
            have qA1 := A1.out.cell; have fA1 := A1.out.free; have lA1 := A1.out.lt; have qAP := AP.out.cell; have fAP := AP.out.free; have lAP := AP.out.lt
            go_wp2_with fail
            have XW := X
            refine (refAddR_any _ _ r p _ NR.out.rd Om.out.rd RL.out PL.out).mono ?_
            rintro e w3 ⟨⟨vs, rfl, nn⟩, hx⟩
            clear qA1 fA1 lA1 qAP fAP lAP
            have AP := Lib.hid (AP.out.ext hx); have Om := Lib.hid (Om.out.ext hx); have NR := Lib.hid (NR.out.ext hx); have A0 := Lib.hid (A0.out.ext hx); have A1 := Lib.hid (A1.out.ext hx); have X := Lib.hid (X.out.trans hx)
            obtain ⟨s1, s2, s3, s4, rfl⟩ := nn.shape
            have NS := Lib.hid (NewR.from nn XW.out)
            have SL := Lib.hid (addR_lim r p); have SC := Lib.hid (fun h => addR_chk (a := r) (b := p) h)
            clear nn hx
            have hst := HST.out
            rw [if_pos trivial, addL_two RL.out RC.out] at hst
            obtain ⟨t, e, ht⟩ : ∃ t e, addR r p = (t, e) := ⟨_, _, rfl⟩
            rw [ht] at NS SL SC hst ⊢
            dsimp only at hst NS SL SC ⊢
            have HST := Lib.hid hst
            clear ht hst
            by_cases he : e = 0
            · have TC := Lib.hid (SC.out he)
              subst he
              have qA1 := A1.out.cell; have fA1 := A1.out.free; have lA1 := A1.out.lt
              go_wp2_with fail
              clear qA1 fA1 lA1
              have hne : w.heap.size ≠ w.heap.size + 1 := by omega
              have hap := A1.out.all3 (.bool t.neg) (.slice s1 t.num.length s2) (.slice s3 t.den.length s4)
              have hq0 := NS.out.set3b A1.out (by decide) (.bool t.neg) (.slice s1 t.num.length s2) (.slice s3 t.den.length s4)
              have hq1 := ((A0.out.setOther (a := ⟨w.heap.size + 1, 0, none⟩) hne (.bool t.neg)).setOther (a := ⟨w.heap.size + 1, 1, none⟩) hne (.slice s1 t.num.length s2)).setOther (a := ⟨w.heap.size + 1, 2, none⟩) hne (.slice s3 t.den.length s4)
              have hx6 : Ext w (((w3.setCell ⟨w.heap.size + 1, 0, none⟩ (.bool t.neg)).setCell ⟨w.heap.size + 1, 1, none⟩ (.slice s1 t.num.length s2)).setCell ⟨w.heap.size + 1, 2, none⟩ (.slice s3 t.den.length s4)) := (((X.out.set (p := ⟨w.heap.size + 1, 0, none⟩) (Nat.le_succ _) _).set (p := ⟨w.heap.size + 1, 1, none⟩) (Nat.le_succ _) _).set (p := ⟨w.heap.size + 1, 2, none⟩) (Nat.le_succ _) _)
              obtain ⟨wy, hwz⟩ : ∃ W, W = (((w3.setCell ⟨w.heap.size + 1, 0, none⟩ (.bool t.neg)).setCell ⟨w.heap.size + 1, 1, none⟩ (.slice s1 t.num.length s2)).setCell ⟨w.heap.size + 1, 2, none⟩ (.slice s3 t.den.length s4)) := ⟨_, rfl⟩
              rw [← hwz] at hap hq0 hq1 hx6 ⊢
              clear hwz
              have A1 := Lib.hid hap; have NS := Lib.hid hq0; have A0 := Lib.hid hq1; have X := Lib.hid hx6
              clear hap hq0 hq1 hx6
              go_roundw
              case rel => exact ⟨k + 1, t, s1, s2, s3, s4, by omega, by go_num, SL.out, TC.out, by have := HST.out; simpa using this, X.out, A0.out, A1.out, NS.out⟩
              case measure => simp [intOf]; omega
            · have he2 : (e != 0) = true := by simpa using he
              have HE := Lib.hid he; clear he
              have qA0 := A0.out.cell; have fA0 := A0.out.free; have lA0 := A0.out.lt; have qA1 := A1.out.cell; have fA1 := A1.out.free; have lA1 := A1.out.lt
              go_wp2_with fail
              clear qA0 fA0 lA0 qA1 fA1 lA1
              have hne : w.heap.size ≠ w.heap.size + 1 := by omega
              have hx5 : Ext w (((w3.setCell ⟨w.heap.size + 1, 0, none⟩ (.bool t.neg)).setCell ⟨w.heap.size + 1, 1, none⟩ (.slice s1 t.num.length s2)).setCell ⟨w.heap.size + 1, 2, none⟩ (.slice s3 t.den.length s4)) := (((X.out.set (p := ⟨w.heap.size + 1, 0, none⟩) (Nat.le_succ _) _).set (p := ⟨w.heap.size + 1, 1, none⟩) (Nat.le_succ _) _).set (p := ⟨w.heap.size + 1, 2, none⟩) (Nat.le_succ _) _)
              have ha5 := ((A0.out.setOther (a := ⟨w.heap.size + 1, 0, none⟩) hne (.bool t.neg)).setOther (a := ⟨w.heap.size + 1, 1, none⟩) hne (.slice s1 t.num.length s2)).setOther (a := ⟨w.heap.size + 1, 2, none⟩) hne (.slice s3 t.den.length s4)
              obtain ⟨W5, hW5⟩ : ∃ W, W = (((w3.setCell ⟨w.heap.size + 1, 0, none⟩ (.bool t.neg)).setCell ⟨w.heap.size + 1, 1, none⟩ (.slice s1 t.num.length s2)).setCell ⟨w.heap.size + 1, 2, none⟩ (.slice s3 t.den.length s4)) := ⟨_, rfl⟩
              rw [← hW5] at hx5 ha5 ⊢
              clear hW5
              have X := Lib.hid hx5; have A0 := Lib.hid ha5
              clear hx5 ha5 hne
              have hb6 := A0.out.all3 (.bool false) (.slice none 0 0) (.slice none 0 0)
              have hx6 : Ext w (((W5.setCell ⟨w.heap.size, 0, none⟩ (.bool false)).setCell ⟨w.heap.size, 1, none⟩ (.slice none 0 0)).setCell ⟨w.heap.size, 2, none⟩ (.slice none 0 0)) := (((X.out.set (p := ⟨w.heap.size, 0, none⟩) (Nat.le_refl _) _).set (p := ⟨w.heap.size, 1, none⟩) (Nat.le_refl _) _).set (p := ⟨w.heap.size, 2, none⟩) (Nat.le_refl _) _)
              obtain ⟨W6, hW6⟩ : ∃ W, W = (((W5.setCell ⟨w.heap.size, 0, none⟩ (.bool false)).setCell ⟨w.heap.size, 1, none⟩ (.slice none 0 0)).setCell ⟨w.heap.size, 2, none⟩ (.slice none 0 0)) := ⟨_, rfl⟩
              rw [← hW6] at hb6 hx6 ⊢
              clear hW6
              have HX6 := Lib.hid hx6; clear hx6
              refine bodyPost_ret (v := .tuple #[.agg #[.bool false, .slice none 0 0, .slice none 0 0], .int .i64 e]) (by have k1 := hb6.cell; have k2 := hb6.free; have k3 := hb6.lt; clear hb6; simp only [results, Tryz.results46]; go_simp) rfl ⟨ResR.mk (l := zR) (NewR.zero _ _) ?_, HX6.out⟩
              rw [HR0.out]
              have h9 := HST.out
              rw [if_neg HE.out] at h9
              exact h9
          · have he2 : (e != 0) = true := by simpa using he
            have HE := Lib.hid he; clear he
            have qA0 := A0.out.cell; have fA0 := A0.out.free; have lA0 := A0.out.lt
            go_wp2_with fail
            clear qA0 fA0 lA0
            have hb6 := A0.out.all3 (.bool false) (.slice none 0 0) (.slice none 0 0)
            have hx6 : Ext w (((wz.setCell ⟨w.heap.size, 0, none⟩ (.bool false)).setCell ⟨w.heap.size, 1, none⟩ (.slice none 0 0)).setCell ⟨w.heap.size, 2, none⟩ (.slice none 0 0)) := (((X.out.set (p := ⟨w.heap.size, 0, none⟩) (Nat.le_refl _) _).set (p := ⟨w.heap.size, 1, none⟩) (Nat.le_refl _) _).set (p := ⟨w.heap.size, 2, none⟩) (Nat.le_refl _) _)
            obtain ⟨W6, hW6⟩ : ∃ W, W = (((wz.setCell ⟨w.heap.size, 0, none⟩ (.bool false)).setCell ⟨w.heap.size, 1, none⟩ (.slice none 0 0)).setCell ⟨w.heap.size, 2, none⟩ (.slice none 0 0)) := ⟨_, rfl⟩
            rw [← hW6] at hb6 hx6 ⊢
            clear hW6
            have HX6 := Lib.hid hx6; clear hx6
            refine bodyPost_ret (v := .tuple #[.agg #[.bool false, .slice none 0 0, .slice none 0 0], .int .i64 e]) (by have k1 := hb6.cell; have k2 := hb6.free; have k3 := hb6.lt; clear hb6; simp only [results, Tryz.results46]; go_simp) rfl ⟨ResR.mk (l := zR) (NewR.zero _ _) ?_, HX6.out⟩
            rw [HR0.out]
            have h9 := HST.out
            rw [if_neg HE.out] at h9
            exact h9
        · go_simp
          have hx : Ext wr ((wr.alloc (.cells #[.bool false, .slice none 0 0, .slice none 0 0] 33)).drew) := ((Ext.refl _).alloc _).drew
          have bz : Blk ((wr.alloc (.cells #[.bool false, .slice none 0 0, .slice none 0 0] 33)).drew) (wr.heap.size) #[.bool false, .slice none 0 0, .slice none 0 0] 33 := by have hh := (Blk.new wr #[.bool false, .slice none 0 0, .slice none 0 0] 33).drew; (try simp only [World.size_alloc] at hh); exact hh
          obtain ⟨w1, hww1⟩ : ∃ W, W = (wr.alloc (.cells #[.bool false, .slice none 0 0, .slice none 0 0] 33)).drew := ⟨_, rfl⟩
          rw [← hww1] at hx bz ⊢
          obtain ⟨APn, hAPn⟩ : ∃ n, n = wr.heap.size := ⟨_, rfl⟩
          have HAPA0 : Hid (w.heap.size < APn) := Lib.hid (by have hh := A0.out.lt; (try simp only [World.size_alloc] at hh); omega)
          have HAPA1 : Hid (w.heap.size + 1 < APn) := Lib.hid (by have hh := A1.out.lt; (try simp only [World.size_alloc] at hh); omega)
          have WAP : Hid (w.heap.size ≤ APn) := Lib.hid (by have hh := X.out.size; (try simp only [World.size_alloc] at hh); omega)
          rw [← hAPn] at bz ⊢
          have A0 := Lib.hid (A0.out.ext hx); have A1 := Lib.hid (A1.out.ext hx); have NR := Lib.hid (NR.out.ext hx); have RX := Lib.hid (RX.out.ext hx); have RY := Lib.hid (RY.out.ext hx); have X := Lib.hid (X.out.trans hx)
          have AP := Lib.hid bz
          clear hx bz hww1 hAPn
          first | refine hK.out _ _ ?_ (fun hHeld => ?_) | (go_wp2_with fail; refine hK.out _ _ ?_ (fun hHeld => ?_))
          · exact ⟨EA.out.c3 (by have x9 := X.out; (repeat (first | (with_reducible exact Ext.refl _) | (with_reducible assumption) | (with_reducible refine Ext.alloc ?_ _) | ((with_reducible refine Ext.setp ?_ ?_); focus (dsimp only; omega)) | (with_reducible refine Ext.drew ?_) | (with_reducible refine Ext.drewN ?_ _) | (with_reducible refine Ext.trans ?_ (by assumption))))), EB.out.c3 (by have x9 := X.out; (repeat (first | (with_reducible exact Ext.refl _) | (with_reducible assumption) | (with_reducible refine Ext.alloc ?_ _) | ((with_reducible refine Ext.setp ?_ ?_); focus (dsimp only; omega)) | (with_reducible refine Ext.drew ?_) | (with_reducible refine Ext.drewN ?_ _) | (with_reducible refine Ext.trans ?_ (by assumption)))))⟩
          clear hK K
          (try simp only [Act.put, List.getElem_toArray, List.getElem_cons_zero, List.getElem_cons_succ, List.setIfInBounds_toArray, List.set_cons_zero, List.set_cons_succ])
          have XO := X
          refine wpAnyH_ready (rs := [8]) (by kernel_rfl) (by simp) ?_
          refine AllReadyH.cons rfl (fun K hK => ?_) ?_
          rotate_left
          · exact AllReadyH.nil
          go_simp
          refine (refMulR_any _ _ x y _ (RX.out.ext (by first | exact Ext.refl _ | exact (Ext.refl _).drew)) (RY.out.ext (by first | exact Ext.refl _ | exact (Ext.refl _).drew)) LX.out LY.out).mono ?_
          rintro e w2 ⟨⟨v, rfl, nn⟩, hx⟩
          have hx := Ext.trans (show Ext w1 _ from by first | exact Ext.refl _ | exact (Ext.refl _).drew) hx
          have A0 := Lib.hid (A0.out.ext hx); have A1 := Lib.hid (A1.out.ext hx); have NR := Lib.hid (NR.out.ext hx); have RX := Lib.hid (RX.out.ext hx); have RY := Lib.hid (RY.out.ext hx); have AP := Lib.hid (AP.out.ext hx); have X := Lib.hid (X.out.trans hx)
          obtain ⟨m1, m2, m3, m4, rfl⟩ := nn.shape
          have Nm := Lib.hid nn.rd
          have Om := Lib.hid (nn.from ((show Ext w _ from by have x9 := XO.out; (repeat (first | (with_reducible exact Ext.refl _) | (with_reducible assumption) | (with_reducible refine Ext.alloc ?_ _) | ((with_reducible refine Ext.setp ?_ ?_); focus (dsimp only; omega)) | (with_reducible refine Ext.drew ?_) | (with_reducible refine Ext.drewN ?_ _) | (with_reducible refine Ext.trans ?_ (by assumption)))))))
          clear nn hx
          first | refine hK.out _ _ ?_ (fun hHeld => ?_) | (go_wp2_with fail; refine hK.out _ _ ?_ (fun hHeld => ?_))
          · exact ⟨EA.out.c3 (by have x9 := X.out; (repeat (first | (with_reducible exact Ext.refl _) | (with_reducible assumption) | (with_reducible refine Ext.alloc ?_ _) | ((with_reducible refine Ext.setp ?_ ?_); focus (dsimp only; omega)) | (with_reducible refine Ext.drew ?_) | (with_reducible refine Ext.drewN ?_ _) | (with_reducible refine Ext.trans ?_ (by assumption))))), EB.out.c3 (by have x9 := X.out; (repeat (first | (with_reducible exact Ext.refl _) | (with_reducible assumption) | (with_reducible refine Ext.alloc ?_ _) | ((with_reducible refine Ext.setp ?_ ?_); focus (dsimp only; omega)) | (with_reducible refine Ext.drew ?_) | (with_reducible refine Ext.drewN ?_ _) | (with_reducible refine Ext.trans ?_ (by assumption)))))⟩
          clear hK K
          (try simp only [Act.put, List.getElem_toArray, List.getElem_cons_zero, List.getElem_cons_succ, List.setIfInBounds_toArray, List.set_cons_zero, List.set_cons_succ])
          refine wpAnyH_take (i := 9) (v := ?_) rfl (by kernel_rfl) (by kernel_rfl) (by kernel_rfl) (fun _ _ _ h => h) (Or.inl ⟨by rfl, ?_⟩) (by assumption) ?_
          rotate_left
          · (intro w hSw; (try dsimp only at hSw); go_simp; first | done | with_reducible rfl)
          (try simp only [Act.put, List.getElem_toArray, List.getElem_cons_zero, List.getElem_cons_succ, List.setIfInBounds_toArray, List.set_cons_zero, List.set_cons_succ])
          refine wpAnyH_take (i := 10) (v := ?_) rfl (by kernel_rfl) (by kernel_rfl) (by kernel_rfl) (fun _ _ _ h => h) (Or.inl ⟨by rfl, ?_⟩) (by assumption) ?_
          rotate_left
          · (intro w hSw; (try dsimp only at hSw); go_simp; first | done | with_reducible rfl)
          (try simp only [Act.put, List.getElem_toArray, List.getElem_cons_zero, List.getElem_cons_succ, List.setIfInBounds_toArray, List.set_cons_zero, List.set_cons_succ])
          refine wpAnyH_take (i := 11) (v := ?_) rfl (by kernel_rfl) (by kernel_rfl) (by kernel_rfl) (fun _ _ _ h => h) (Or.inl ⟨by rfl, ?_⟩) (by assumption) ?_
          rotate_left
          · (intro w hSw; (try dsimp only at hSw); go_simp; first | done | with_reducible rfl)
          (try simp only [Act.put, List.getElem_toArray, List.getElem_cons_zero, List.getElem_cons_succ, List.setIfInBounds_toArray, List.set_cons_zero, List.set_cons_succ])
          have qAP := AP.out.cell; have fAP := AP.out.free; have lAP := AP.out.lt
          refine wpAnyH_ready (rs := [13]) (by kernel_rfl) (by simp) ?_
          refine AllReadyH.cons rfl (fun K hK => ?_) ?_
          rotate_left
          · exact AllReadyH.nil
          go_simp
          first | refine hK.out _ _ ?_ (fun hHeld => ?_) | (go_wp2_with fail; refine hK.out _ _ ?_ (fun hHeld => ?_))
          · ((try dsimp only); exact ⟨EA.out.c3 (by have x9 := X.out; have z9 := WAP.out; (repeat (first | (with_reducible exact Ext.refl _) | (with_reducible assumption) | (with_reducible refine Ext.alloc ?_ _) | ((with_reducible refine Ext.setp ?_ ?_); focus (dsimp only; omega)) | (with_reducible refine Ext.drew ?_) | (with_reducible refine Ext.drewN ?_ _) | (with_reducible refine Ext.trans ?_ (by assumption))))), EB.out.c3 (by have x9 := X.out; have z9 := WAP.out; (repeat (first | (with_reducible exact Ext.refl _) | (with_reducible assumption) | (with_reducible refine Ext.alloc ?_ _) | ((with_reducible refine Ext.setp ?_ ?_); focus (dsimp only; omega)) | (with_reducible refine Ext.drew ?_) | (with_reducible refine Ext.drewN ?_ _) | (with_reducible refine Ext.trans ?_ (by assumption)))))⟩)
          clear hK K
          (try simp only [Act.put, List.getElem_toArray, List.getElem_cons_zero, List.getElem_cons_succ, List.setIfInBounds_toArray, List.set_cons_zero, List.set_cons_succ])
          refine wpAnyH_take (i := 14) (v := ?_) rfl (by kernel_rfl) (by kernel_rfl) (by kernel_rfl) (fun _ _ _ h => h) (Or.inl ⟨by rfl, ?_⟩) (by assumption) ?_
          rotate_left
          · (intro w hSw; (try dsimp only at hSw); go_simp; first | done | with_reducible rfl)
          (try simp only [Act.put, List.getElem_toArray, List.getElem_cons_zero, List.getElem_cons_succ, List.setIfInBounds_toArray, List.set_cons_zero, List.set_cons_succ])
          refine wpAnyH_done (by kernel_rfl) ?_ _
          clear qAP fAP lAP
          have hne : w.heap.size ≠ APn := Nat.ne_of_lt HAPA0.out; have hne1 : w.heap.size + 1 ≠ APn := Nat.ne_of_lt HAPA1.out
          have hap := AP.out.all3 (.bool (mulR x y).1.neg) (.slice m1 (mulR x y).1.num.length m2) (.slice m3 (mulR x y).1.den.length m4)
          have hq0 := Om.out.set3 AP.out (by decide) (.bool (mulR x y).1.neg) (.slice m1 (mulR x y).1.num.length m2) (.slice m3 (mulR x y).1.den.length m4)
          have hq1 := NR.out.set3 AP.out (by decide) (.bool (mulR x y).1.neg) (.slice m1 (mulR x y).1.num.length m2) (.slice m3 (mulR x y).1.den.length m4)
          have hq2 := ((A0.out.setOther (a := ⟨APn, 0, none⟩) hne (.bool (mulR x y).1.neg)).setOther (a := ⟨APn, 1, none⟩) hne (.slice m1 (mulR x y).1.num.length m2)).setOther (a := ⟨APn, 2, none⟩) hne (.slice m3 (mulR x y).1.den.length m4)
          have hq3 := ((A1.out.setOther (a := ⟨APn, 0, none⟩) hne1 (.bool (mulR x y).1.neg)).setOther (a := ⟨APn, 1, none⟩) hne1 (.slice m1 (mulR x y).1.num.length m2)).setOther (a := ⟨APn, 2, none⟩) hne1 (.slice m3 (mulR x y).1.den.length m4)
          have hx6 : Ext w (((w2.setCell ⟨APn, 0, none⟩ (.bool (mulR x y).1.neg)).setCell ⟨APn, 1, none⟩ (.slice m1 (mulR x y).1.num.length m2)).setCell ⟨APn, 2, none⟩ (.slice m3 (mulR x y).1.den.length m4)) := (((X.out.set (p := ⟨APn, 0, none⟩) WAP.out _).set (p := ⟨APn, 1, none⟩) WAP.out _).set (p := ⟨APn, 2, none⟩) WAP.out _)
          obtain ⟨wz, hwz⟩ : ∃ W, W = (((w2.setCell ⟨APn, 0, none⟩ (.bool (mulR x y).1.neg)).setCell ⟨APn, 1, none⟩ (.slice m1 (mulR x y).1.num.length m2)).setCell ⟨APn, 2, none⟩ (.slice m3 (mulR x y).1.den.length m4)) := ⟨_, rfl⟩
          rw [← hwz] at hap hq0 hq1 hq2 hq3 hx6 ⊢
          clear hwz
          have AP := Lib.hid hap; have Om := Lib.hid hq0; have NR := Lib.hid hq1; have A0 := Lib.hid hq2; have A1 := Lib.hid hq3; have X := Lib.hid hx6
          clear hap hq0 hq1 hq2 hq3 hx6
          clear hne hne1
          have PL := Lib.hid (mulR_lim x y)
          obtain ⟨p, e, hp⟩ : ∃ p e, mulR x y = (p, e) := ⟨_, _, rfl⟩
          rw [hp] at HST AP Om PL ⊢
          dsimp only at HST AP Om PL ⊢
          clear hp
          by_cases he : e = 0
          · subst he
            have qA1 := A1.out.cell; have fA1 := A1.out.free; have lA1 := A1.out.lt; have qAP := AP.out.cell; have fAP := AP.out.free; have lAP := AP.out.lt
            go_wp2_with fail
            have XW := X
            refine (refAddR_any _ _ r p _ NR.out.rd Om.out.rd RL.out PL.out).mono ?_
            rintro e w3 ⟨⟨vs, rfl, nn⟩, hx⟩
            clear qA1 fA1 lA1 qAP fAP lAP
            have AP := Lib.hid (AP.out.ext hx); have Om := Lib.hid (Om.out.ext hx); have NR := Lib.hid (NR.out.ext hx); have A0 := Lib.hid (A0.out.ext hx); have A1 := Lib.hid (A1.out.ext hx); have X := Lib.hid (X.out.trans hx)
            obtain ⟨s1, s2, s3, s4, rfl⟩ := nn.shape
            have NS := Lib.hid (NewR.from nn XW.out)
            have SL := Lib.hid (addR_lim r p); have SC := Lib.hid (fun h => addR_chk (a := r) (b := p) h)
            clear nn hx
            have hst := HST.out
            rw [if_pos trivial, addL_two RL.out RC.out] at hst
            obtain ⟨t, e, ht⟩ : ∃ t e, addR r p = (t, e) := ⟨_, _, rfl⟩
            rw [ht] at NS SL SC hst ⊢
            dsimp only at hst NS SL SC ⊢
            have HST := Lib.hid hst
            clear ht hst
            by_cases he : e = 0
            · have TC := Lib.hid (SC.out he)
              subst he
              have qA1 := A1.out.cell; have fA1 := A1.out.free; have lA1 := A1.out.lt
              go_wp2_with fail
              clear qA1 fA1 lA1
              have hne : w.heap.size ≠ w.heap.size + 1 := by omega
              have hap := A1.out.all3 (.bool t.neg) (.slice s1 t.num.length s2) (.slice s3 t.den.length s4)
              have hq0 := NS.out.set3b A1.out (by decide) (.bool t.neg) (.slice s1 t.num.length s2) (.slice s3 t.den.length s4)
              have hq1 := ((A0.out.setOther (a := ⟨w.heap.size + 1, 0, none⟩) hne (.bool t.neg)).setOther (a := ⟨w.heap.size + 1, 1, none⟩) hne (.slice s1 t.num.length s2)).setOther (a := ⟨w.heap.size + 1, 2, none⟩) hne (.slice s3 t.den.length s4)
              have hx6 : Ext w (((w3.setCell ⟨w.heap.size + 1, 0, none⟩ (.bool t.neg)).setCell ⟨w.heap.size + 1, 1, none⟩ (.slice s1 t.num.length s2)).setCell ⟨w.heap.size + 1, 2, none⟩ (.slice s3 t.den.length s4)) := (((X.out.set (p := ⟨w.heap.size + 1, 0, none⟩) (Nat.le_succ _) _).set (p := ⟨w.heap.size + 1, 1, none⟩) (Nat.le_succ _) _).set (p := ⟨w.heap.size + 1, 2, none⟩) (Nat.le_succ _) _)
              obtain ⟨wy, hwz⟩ : ∃ W, W = (((w3.setCell ⟨w.heap.size + 1, 0, none⟩ (.bool t.neg)).setCell ⟨w.heap.size + 1, 1, none⟩ (.slice s1 t.num.length s2)).setCell ⟨w.heap.size + 1, 2, none⟩ (.slice s3 t.den.length s4)) := ⟨_, rfl⟩
              rw [← hwz] at hap hq0 hq1 hx6 ⊢
              clear hwz
              have A1 := Lib.hid hap; have NS := Lib.hid hq0; have A0 := Lib.hid hq1; have X := Lib.hid hx6
              clear hap hq0 hq1 hx6
              go_roundw
              case rel => exact ⟨k + 1, t, s1, s2, s3, s4, by omega, by go_num, SL.out, TC.out, by have := HST.out; simpa using this, X.out, A0.out, A1.out, NS.out⟩
              case measure => simp [intOf]; omega
            · have he2 : (e != 0) = true := by simpa using he
              have HE := Lib.hid he; clear he
              have qA0 := A0.out.cell; have fA0 := A0.out.free; have lA0 := A0.out.lt; have qA1 := A1.out.cell; have fA1 := A1.out.free; have lA1 := A1.out.lt
              go_wp2_with fail
              clear qA0 fA0 lA0 qA1 fA1 lA1
              have hne : w.heap.size ≠ w.heap.size + 1 := by omega
              have hx5 : Ext w (((w3.setCell ⟨w.heap.size + 1, 0, none⟩ (.bool t.neg)).setCell ⟨w.heap.size + 1, 1, none⟩ (.slice s1 t.num.length s2)).setCell ⟨w.heap.size + 1, 2, none⟩ (.slice s3 t.den.length s4)) := (((X.out.set (p := ⟨w.heap.size + 1, 0, none⟩) (Nat.le_succ _) _).set (p := ⟨w.heap.size + 1, 1, none⟩) (Nat.le_succ _) _).set (p := ⟨w.heap.size + 1, 2, none⟩) (Nat.le_succ _) _)
              have ha5 := ((A0.out.setOther (a := ⟨w.heap.size + 1, 0, none⟩) hne (.bool t.neg)).setOther (a := ⟨w.heap.size + 1, 1, none⟩) hne (.slice s1 t.num.length s2)).setOther (a := ⟨w.heap.size + 1, 2, none⟩) hne (.slice s3 t.den.length s4)
              obtain ⟨W5, hW5⟩ : ∃ W, W = (((w3.setCell ⟨w.heap.size + 1, 0, none⟩ (.bool t.neg)).setCell ⟨w.heap.size + 1, 1, none⟩ (.slice s1 t.num.length s2)).setCell ⟨w.heap.size + 1, 2, none⟩ (.slice s3 t.den.length s4)) := ⟨_, rfl⟩
              rw [← hW5] at hx5 ha5 ⊢
              clear hW5
              have X := Lib.hid hx5; have A0 := Lib.hid ha5
              clear hx5 ha5 hne
              have hb6 := A0.out.all3 (.bool false) (.slice none 0 0) (.slice none 0 0)
              have hx6 : Ext w (((W5.setCell ⟨w.heap.size, 0, none⟩ (.bool false)).setCell ⟨w.heap.size, 1, none⟩ (.slice none 0 0)).setCell ⟨w.heap.size, 2, none⟩ (.slice none 0 0)) := (((X.out.set (p := ⟨w.heap.size, 0, none⟩) (Nat.le_refl _) _).set (p := ⟨w.heap.size, 1, none⟩) (Nat.le_refl _) _).set (p := ⟨w.heap.size, 2, none⟩) (Nat.le_refl _) _)
              obtain ⟨W6, hW6⟩ : ∃ W, W = (((W5.setCell ⟨w.heap.size, 0, none⟩ (.bool false)).setCell ⟨w.heap.size, 1, none⟩ (.slice none 0 0)).setCell ⟨w.heap.size, 2, none⟩ (.slice none 0 0)) := ⟨_, rfl⟩
              rw [← hW6] at hb6 hx6 ⊢
              clear hW6
              have HX6 := Lib.hid hx6; clear hx6
              refine bodyPost_ret (v := .tuple #[.agg #[.bool false, .slice none 0 0, .slice none 0 0], .int .i64 e]) (by have k1 := hb6.cell; have k2 := hb6.free; have k3 := hb6.lt; clear hb6; simp only [results, Tryz.results46]; go_simp) rfl ⟨ResR.mk (l := zR) (NewR.zero _ _) ?_, HX6.out⟩
              rw [HR0.out]
              have h9 := HST.out
              rw [if_neg HE.out] at h9
              exact h9
          · have he2 : (e != 0) = true := by simpa using he
            have HE := Lib.hid he; clear he
            have qA0 := A0.out.cell; have fA0 := A0.out.free; have lA0 := A0.out.lt
            go_wp2_with fail
            clear qA0 fA0 lA0
            have hb6 := A0.out.all3 (.bool false) (.slice none 0 0) (.slice none 0 0)
            have hx6 : Ext w (((wz.setCell ⟨w.heap.size, 0, none⟩ (.bool false)).setCell ⟨w.heap.size, 1, none⟩ (.slice none 0 0)).setCell ⟨w.heap.size, 2, none⟩ (.slice none 0 0)) := (((X.out.set (p := ⟨w.heap.size, 0, none⟩) (Nat.le_refl _) _).set (p := ⟨w.heap.size, 1, none⟩) (Nat.le_refl _) _).set (p := ⟨w.heap.size, 2, none⟩) (Nat.le_refl _) _)
            obtain ⟨W6, hW6⟩ : ∃ W, W = (((wz.setCell ⟨w.heap.size, 0, none⟩ (.bool false)).setCell ⟨w.heap.size, 1, none⟩ (.slice none 0 0)).setCell ⟨w.heap.size, 2, none⟩ (.slice none 0 0)) := ⟨_, rfl⟩
            rw [← hW6] at hb6 hx6 ⊢
            clear hW6
            have HX6 := Lib.hid hx6; clear hx6
            refine bodyPost_ret (v := .tuple #[.agg #[.bool false, .slice none 0 0, .slice none 0 0], .int .i64 e]) (by have k1 := hb6.cell; have k2 := hb6.free; have k3 := hb6.lt; clear hb6; simp only [results, Tryz.results46]; go_simp) rfl ⟨ResR.mk (l := zR) (NewR.zero _ _) ?_, HX6.out⟩
            rw [HR0.out]
            have h9 := HST.out
            rw [if_neg HE.out] at h9
            exact h9
      · obtain rfl : k = la.length := by omega
        have q2 : ¬ (la.length : Int) < (la.length : Int) := by omega
        have qA0 := A0.out.cell; have fA0 := A0.out.free; have lA0 := A0.out.lt; have qA1 := A1.out.cell; have fA1 := A1.out.free; have lA1 := A1.out.lt
        go_wp2_with fail
        clear qA0 fA0 lA0 qA1 fA1 lA1
        refine bodyPost_ret (v := .tuple #[.agg #[.bool r.neg, .slice a1 r.num.length c1, .slice a2 r.den.length c2], .int .i64 0]) (by have k1 := A0.out.cell; have k2 := A0.out.free; have k3 := A0.out.lt; simp only [results, Tryz.results46]; go_simp) rfl ⟨ResR.mk (l := r) ?_ ?_, ?_⟩
        · exact NR.out.set3b A0.out (by decide) _ _ _
        · rw [HR0.out]
          have h9 := HS.out
          rw [List.drop_of_length_le (Nat.le_refl _)] at h9
          rw [h9]
          exact dotL_nil _ _
        · exact ((X.out.set (p := ⟨w.heap.size, 0, none⟩) (Nat.le_refl _) _).set (p := ⟨w.heap.size, 1, none⟩) (Nat.le_refl _) _).set (p := ⟨w.heap.size, 2, none⟩) (Nat.le_refl _) _
  · have hr0 : dotR la lb = (zR, 16) := if_neg hlen
    have HR0 := Lib.hid hr0; clear hr0
    have q0 : ((la.length : Int) != (lb.length : Int)) = true := by simp; omega
    have bb0 := (Blk.new w #[.bool false, .slice none 0 0, .slice none 0 0] 33)
    have x0 : Ext w (w.alloc (.cells #[.bool false, .slice none 0 0, .slice none 0 0] 33)) := ((Ext.refl w).alloc _)
    have A0 := Lib.hid bb0; have X := Lib.hid x0
    clear x0 bb0
    go_enter Tryz.func46, Tryz.ntmps46
    have qA0 := A0.out.cell; have fA0 := A0.out.free; have lA0 := A0.out.lt
    go_wp2_with fail
    clear qA0 fA0 lA0
    refine bodyPost_ret (v := .tuple #[.agg #[.bool false, .slice none 0 0, .slice none 0 0], .int .i64 16]) (by have k1 := A0.out.cell; have k2 := A0.out.free; have k3 := A0.out.lt; simp only [results, Tryz.results46]; go_simp) rfl ⟨ResR.mk (l := zR) (NewR.zero _ _) HR0.out, X.out⟩
end Go.Proofs.YtlbppdgijjbjbaaGreat
