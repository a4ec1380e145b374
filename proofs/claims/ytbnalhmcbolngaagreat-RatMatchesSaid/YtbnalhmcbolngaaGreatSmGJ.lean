/- Part of the proof of mat6_holds: what the row needs of GJ. Conditions: as each theorem states. -/
import Derived.Test.YtbnalhmcbolngaaGreatSmGG
import Derived.Lib.Bytealg
import Derived.Lib.Strings
import Derived.Lib.IndexLaws
import Derived.Laws.Externs
namespace Go.Proofs.YtbnalhmcbolngaaGreat
set_option linter.unusedSimpArgs false
set_option linter.unusedVariables false
open Go.RowKit
theorem chk_at {w : World} {v : Value} {r : RR} (h : RdR w v r) (hl : LimR r) : ∀ W, Ext w W → Calls Tryz.prog 68 #[v] W fun e w' => e = .returned (.int .i64 (chkR r)) ∧ Ext W w' := fun W x => checkR_any v r W (h.ext x) hl
set_option maxHeartbeats 4000000 in
theorem operate_any (g : Nat) (eg : ∀ args w, (callFunc g args).run Tryz.prog w = .ok (.enter g args) w) (va vb : Value) (ra rb : RR) (w : World) (ha : RdR w va ra) (hb : RdR w vb rb) (la : LimR ra) (lb : LimR rb) (T : Bool × Nat × Nat)
    (hT : chkR2 ra rb = 0 → T.2.2 ≠ 0 ∧ (lim T.2.1).length ≤ 512 ∧ (lim T.2.2).length ≤ 512)
    (hf : chkR2 ra rb = 0 → ∀ W v1 v2, RdV W v1 ra.neg ra.num (dl ra.den) → RdV W v2 rb.neg rb.num (dl rb.den) → Calls Tryz.prog g #[v1, v2] W fun e w' => (∃ v', e = .returned v' ∧ RdV w' v' T.1 (lim T.2.1) (lim T.2.2)) ∧ Ext W w') :
    Calls Tryz.prog 124 #[va, vb, .func (.func g) #[] #[]] w fun e w' => ResR w w' e (opR ra rb (fitR (vq T))) ∧ Ext w w' := by
  have HCA := Lib.hid (chk_at ha la); have HCB := Lib.hid (chk_at hb lb)
  have HA := Lib.hid ha; have HB := Lib.hid hb
  obtain ⟨a1, c1, a2, c2, rfl⟩ := ha.shape
  obtain ⟨a3, c3, a4, c4, rfl⟩ := hb.shape
  obtain ⟨s1, l1, l2⟩ := ra
  obtain ⟨s2, l3, l4⟩ := rb
  dsimp only at HCA HCB HA HB hf ⊢
  clear ha hb
  have HT := Lib.hid hT; have HF := Lib.hid hf
  clear hT hf
  have b0 := ((Blk.new w #[.bool s1, .slice a1 l1.length c1, .slice a2 l2.length c2] 33).alloc (.cells #[.bool s2, .slice a3 l3.length c3, .slice a4 l4.length c4] 33)).alloc (.cells #[.bool false, .slice none 0 0, .slice none 0 0] 33)
  have b1 := (Blk.new (w.alloc (.cells #[.bool s1, .slice a1 l1.length c1, .slice a2 l2.length c2] 33)) #[.bool s2, .slice a3 l3.length c3, .slice a4 l4.length c4] 33).alloc (.cells #[.bool false, .slice none 0 0, .slice none 0 0] 33)
  have b2 := Blk.new ((w.alloc (.cells #[.bool s1, .slice a1 l1.length c1, .slice a2 l2.length c2] 33)).alloc (.cells #[.bool s2, .slice a3 l3.length c3, .slice a4 l4.length c4] 33)) #[.bool false, .slice none 0 0, .slice none 0 0] 33
  rw [World.size_alloc] at b1
  rw [World.size_alloc, World.size_alloc] at b2
  have x0 : Ext w (((w.alloc (.cells #[.bool s1, .slice a1 l1.length c1, .slice a2 l2.length c2] 33)).alloc (.cells #[.bool s2, .slice a3 l3.length c3, .slice a4 l4.length c4] 33)).alloc (.cells #[.bool false, .slice none 0 0, .slice none 0 0] 33)) := (((Ext.refl w).alloc _).alloc _).alloc _
  have A0 := Lib.hid b0; have A1 := Lib.hid b1; have A2 := Lib.hid b2
  clear b0 b1 b2
  by_cases hc : chkR2 ⟨s1, l1, l2⟩ ⟨s2, l3, l4⟩ = 0
  · have eo : opR ⟨s1, l1, l2⟩ ⟨s2, l3, l4⟩ (fitR (vq T)) = fitR (vq T) := by unfold opR; rw [if_pos hc]
    rw [eo]
    obtain ⟨hca, hcb⟩ := chkR2_0 hc
    rw [hca] at HCA
    rw [hcb] at HCB
    have HC := Lib.hid hc
    clear hc hca hcb eo
    go_enter Tryz.func124, Tryz.ntmps124
    go_wp2_with fail
    have hmx : Tryz.prog.follows .mixedOrders = true := by kernel_rfl
    go_region_held3 (fun W => (Blk W w.heap.size #[.bool s1, .slice a1 l1.length c1, .slice a2 l2.length c2] 33 ∧ W.cell? ⟨w.heap.size, 0, none⟩ = some (.bool s1) ∧ W.cell? ⟨w.heap.size, 1, none⟩ = some (.slice a1 l1.length c1) ∧ W.cell? ⟨w.heap.size, 2, none⟩ = some (.slice a2 l2.length c2)) ∧ (Blk W (w.heap.size + 1) #[.bool s2, .slice a3 l3.length c3, .slice a4 l4.length c4] 33 ∧ W.cell? ⟨w.heap.size + 1, 0, none⟩ = some (.bool s2) ∧ W.cell? ⟨w.heap.size + 1, 1, none⟩ = some (.slice a3 l3.length c3) ∧ W.cell? ⟨w.heap.size + 1, 2, none⟩ = some (.slice a4 l4.length c4)))
      ((refine ⟨Blk.s3 ?_, Blk.s3 ?_⟩ <;> (repeat (first | exact A0.out | exact A1.out | exact k1 | exact k2 | exact k4 | exact k5 | exact k7 | exact k8 | refine Blk.setOther ?_ (by dsimp only; omega) _ | refine Blk.alloc ?_ _ | refine Blk.drew ?_))))
      (first | (go_at_call_of 68 (Value.slice a1 l1.length c1); refine (HCA.out _ (by (repeat (first | (with_reducible exact Ext.refl _) | (with_reducible assumption) | (with_reducible refine Ext.alloc ?_ _) | ((with_reducible refine Ext.setp ?_ ?_); focus (dsimp only; omega)) | (with_reducible refine Ext.drew ?_) | (with_reducible refine Ext.drewN ?_ _) | (with_reducible refine Ext.trans ?_ (by assumption)))))).mono ?_; rintro e W4 ⟨rfl, hx4⟩; have x4 := Ext.trans x0 (Ext.trans (by (repeat (first | (with_reducible exact Ext.refl _) | (with_reducible assumption) | (with_reducible refine Ext.alloc ?_ _) | ((with_reducible refine Ext.setp ?_ ?_); focus (dsimp only; omega)) | (with_reducible refine Ext.drew ?_) | (with_reducible refine Ext.drewN ?_ _) | (with_reducible refine Ext.trans ?_ (by assumption))))) hx4); have k1 := A0.out.ext (Ext.trans (by (repeat (first | (with_reducible exact Ext.refl _) | (with_reducible assumption) | (with_reducible refine Ext.alloc ?_ _) | ((with_reducible refine Ext.setp ?_ ?_); focus (dsimp only; omega)) | (with_reducible refine Ext.drew ?_) | (with_reducible refine Ext.drewN ?_ _) | (with_reducible refine Ext.trans ?_ (by assumption))))) hx4); have k2 := A1.out.ext (Ext.trans (by (repeat (first | (with_reducible exact Ext.refl _) | (with_reducible assumption) | (with_reducible refine Ext.alloc ?_ _) | ((with_reducible refine Ext.setp ?_ ?_); focus (dsimp only; omega)) | (with_reducible refine Ext.drew ?_) | (with_reducible refine Ext.drewN ?_ _) | (with_reducible refine Ext.trans ?_ (by assumption))))) hx4); have k3 := A2.out.ext (Ext.trans (by (repeat (first | (with_reducible exact Ext.refl _) | (with_reducible assumption) | (with_reducible refine Ext.alloc ?_ _) | ((with_reducible refine Ext.setp ?_ ?_); focus (dsimp only; omega)) | (with_reducible refine Ext.drew ?_) | (with_reducible refine Ext.drewN ?_ _) | (with_reducible refine Ext.trans ?_ (by assumption))))) hx4)) | (go_at_call_of 68 (Value.slice a3 l3.length c3); refine (HCB.out _ (by (repeat (first | (with_reducible exact Ext.refl _) | (with_reducible assumption) | (with_reducible refine Ext.alloc ?_ _) | ((with_reducible refine Ext.setp ?_ ?_); focus (dsimp only; omega)) | (with_reducible refine Ext.drew ?_) | (with_reducible refine Ext.drewN ?_ _) | (with_reducible refine Ext.trans ?_ (by assumption)))))).mono ?_; rintro e W5 ⟨rfl, hx5⟩; have x5 := x4.trans hx5; have k4 := k1.ext hx5; have k5 := k2.ext hx5; have k6 := k3.ext hx5) | (go_at_call 128; refine (orE_any _ _ _ _ (Blk.new W5 _ _)).mono ?_; rintro e W6 ⟨rfl, hx6⟩; have x6 := (x5.alloc _).trans hx6; have k7 := (k4.alloc _).ext hx6; have k8 := (k5.alloc _).ext hx6; have k9 := (k6.alloc _).ext hx6))
    have G6 := Lib.hid k7; have H6 := Lib.hid k8; have R6 := Lib.hid k9; have X6 := Lib.hid x6
    clear k1 k2 k3 k4 k5 k6 k7 k8 k9 hx4 hx5 hx6 x4 x5 x6 A0 A1 A2 x0
    go_wp2_with fail
    have hlow := fun W v (h : RdV W v T.1 (lim T.2.1) (lim T.2.2)) => low_any v T.1 (lim T.2.1) (lim T.2.2) W h (lim_lim _) (lim_lim _) (lim_noZ _) (lim_noZ _) (HT.out HC.out).2.1 (HT.out HC.out).2.2 (by rw [nv_lim]; exact (HT.out HC.out).1)
    rw [nv_lim, nv_lim] at hlow
    have hlow1 : ∀ W v, RdV W v T.1 (lim T.2.1) (lim T.2.2) → Calls Tryz.prog 164 #[v] W fun e w' => (∃ v', e = .returned v' ∧ NewR W w' v' (rep (vq T))) ∧ Ext W w' := hlow
    obtain ⟨RS, hRS⟩ : ∃ RS, RS = rep (vq T) := ⟨_, rfl⟩
    rw [← hRS] at hlow1
    have hoa := fun W (x : Ext w W) => ofR_any _ _ W (HA.out.ext x)
    have hob := fun W (x : Ext w W) => ofR_any _ _ W (HB.out.ext x)
    dsimp only at hoa hob
    have HRS := Lib.hid hRS; have HLOW := Lib.hid hlow1; have HOA := Lib.hid hoa; have HOB := Lib.hid hob
    have x6 := X6.out; have g6 := G6.out; have h6 := H6.out; have r6 := R6.out
    have lt6 := r6.lt
    clear hlow hlow1 hRS hoa hob
    go_region_held3 (fun W => (Blk W w.heap.size #[.bool s1, .slice a1 l1.length c1, .slice a2 l2.length c2] 33 ∧ W.cell? ⟨w.heap.size, 0, none⟩ = some (.bool s1) ∧ W.cell? ⟨w.heap.size, 1, none⟩ = some (.slice a1 l1.length c1) ∧ W.cell? ⟨w.heap.size, 2, none⟩ = some (.slice a2 l2.length c2)) ∧ (Blk W (w.heap.size + 1) #[.bool s2, .slice a3 l3.length c3, .slice a4 l4.length c4] 33 ∧ W.cell? ⟨w.heap.size + 1, 0, none⟩ = some (.bool s2) ∧ W.cell? ⟨w.heap.size + 1, 1, none⟩ = some (.slice a3 l3.length c3) ∧ W.cell? ⟨w.heap.size + 1, 2, none⟩ = some (.slice a4 l4.length c4)))
      ((refine ⟨Blk.s3 ?_, Blk.s3 ?_⟩ <;> (repeat (first | exact g6 | exact h6 | exact g7 | exact h7 | exact g8 | exact h8 | exact g9 | exact h9 | exact g10 | exact h10 | refine Blk.setOther ?_ (by dsimp only; omega) _ | refine Blk.alloc ?_ _ | refine Blk.drew ?_))))
      (first
        | (go_at_call_of 130 (Value.slice a1 l1.length c1); refine (HOA.out _ (by (repeat (first | (with_reducible exact Ext.refl _) | (with_reducible assumption) | (with_reducible refine Ext.alloc ?_ _) | ((with_reducible refine Ext.setp ?_ ?_); focus (dsimp only; omega)) | (with_reducible refine Ext.drew ?_) | (with_reducible refine Ext.drewN ?_ _) | (with_reducible refine Ext.trans ?_ (by assumption)))))).mono ?_; rintro e W7 ⟨⟨v7, rfl, vn7, vd7, rfl, hn7, hd7⟩, hx7⟩; obtain ⟨p7, q7, rfl⟩ := rdU_shape hn7; obtain ⟨p8, q8, rfl⟩ := rdU_shape hd7; have e7 : Ext W6 W7 := Ext.trans (by (repeat (first | (with_reducible exact Ext.refl _) | (with_reducible assumption) | (with_reducible refine Ext.alloc ?_ _) | ((with_reducible refine Ext.setp ?_ ?_); focus (dsimp only; omega)) | (with_reducible refine Ext.drew ?_) | (with_reducible refine Ext.drewN ?_ _) | (with_reducible refine Ext.trans ?_ (by assumption))))) hx7; have t7 := e7.size; have x7 := x6.trans e7; have g7 := g6.ext e7; have h7 := h6.ext e7; have r7 := r6.ext e7; skip; have HN7 := Lib.hid hn7; have HD7 := Lib.hid hd7; clear hn7 hd7)
        | (go_at_call_of 130 (Value.slice a3 l3.length c3); refine (HOB.out _ (by (repeat (first | (with_reducible exact Ext.refl _) | (with_reducible assumption) | (with_reducible refine Ext.alloc ?_ _) | ((with_reducible refine Ext.setp ?_ ?_); focus (dsimp only; omega)) | (with_reducible refine Ext.drew ?_) | (with_reducible refine Ext.drewN ?_ _) | (with_reducible refine Ext.trans ?_ (by assumption)))))).mono ?_; rintro e W8 ⟨⟨v8, rfl, vn8, vd8, rfl, hn8, hd8⟩, hx8⟩; obtain ⟨p9, q9, rfl⟩ := rdU_shape hn8; obtain ⟨p10, q10, rfl⟩ := rdU_shape hd8; have e8 : Ext W7 W8 := Ext.trans (by (repeat (first | (with_reducible exact Ext.refl _) | (with_reducible assumption) | (with_reducible refine Ext.alloc ?_ _) | ((with_reducible refine Ext.setp ?_ ?_); focus (dsimp only; omega)) | (with_reducible refine Ext.drew ?_) | (with_reducible refine Ext.drewN ?_ _) | (with_reducible refine Ext.trans ?_ (by assumption))))) hx8; have t8 := e8.size; have x8 := x7.trans e8; have g8 := g7.ext e8; have h8 := h7.ext e8; have r8 := r7.ext e8; skip; have HN8 := Lib.hid hn8; have HD8 := Lib.hid hd8; have HN7' := Lib.hid (HN7.out.ext e8); have HD7' := Lib.hid (HD7.out.ext e8); clear hn8 hd8)
        | (go_at_fn g; refine (HF.out HC.out _ _ _ ⟨_, _, rfl, HN7'.out.ext (by (repeat (first | (with_reducible exact Ext.refl _) | (with_reducible assumption) | (with_reducible refine Ext.alloc ?_ _) | ((with_reducible refine Ext.setp ?_ ?_); focus (dsimp only; omega)) | (with_reducible refine Ext.drew ?_) | (with_reducible refine Ext.drewN ?_ _) | (with_reducible refine Ext.trans ?_ (by assumption))))), HD7'.out.ext (by (repeat (first | (with_reducible exact Ext.refl _) | (with_reducible assumption) | (with_reducible refine Ext.alloc ?_ _) | ((with_reducible refine Ext.setp ?_ ?_); focus (dsimp only; omega)) | (with_reducible refine Ext.drew ?_) | (with_reducible refine Ext.drewN ?_ _) | (with_reducible refine Ext.trans ?_ (by assumption)))))⟩ ⟨_, _, rfl, HN8.out.ext (by (repeat (first | (with_reducible exact Ext.refl _) | (with_reducible assumption) | (with_reducible refine Ext.alloc ?_ _) | ((with_reducible refine Ext.setp ?_ ?_); focus (dsimp only; omega)) | (with_reducible refine Ext.drew ?_) | (with_reducible refine Ext.drewN ?_ _) | (with_reducible refine Ext.trans ?_ (by assumption))))), HD8.out.ext (by (repeat (first | (with_reducible exact Ext.refl _) | (with_reducible assumption) | (with_reducible refine Ext.alloc ?_ _) | ((with_reducible refine Ext.setp ?_ ?_); focus (dsimp only; omega)) | (with_reducible refine Ext.drew ?_) | (with_reducible refine Ext.drewN ?_ _) | (with_reducible refine Ext.trans ?_ (by assumption)))))⟩).mono ?_; rintro e W9 ⟨⟨v9, rfl, vn9, vd9, rfl, hn9, hd9⟩, hx9⟩; obtain ⟨p11, q11, rfl⟩ := rdU_shape hn9; obtain ⟨p12, q12, rfl⟩ := rdU_shape hd9; have e9 : Ext W8 W9 := Ext.trans (by (repeat (first | (with_reducible exact Ext.refl _) | (with_reducible assumption) | (with_reducible refine Ext.alloc ?_ _) | ((with_reducible refine Ext.setp ?_ ?_); focus (dsimp only; omega)) | (with_reducible refine Ext.drew ?_) | (with_reducible refine Ext.drewN ?_ _) | (with_reducible refine Ext.trans ?_ (by assumption))))) hx9; have t9 := e9.size; have x9 := x8.trans e9; have g9 := g8.ext e9; have h9 := h8.ext e9; have r9 := r8.ext e9; skip; have HN9 := Lib.hid hn9; have HD9 := Lib.hid hd9; clear hn9 hd9)
        | (go_at_call 164; refine (HLOW.out _ _ ⟨_, _, rfl, HN9.out.ext (by (repeat (first | (with_reducible exact Ext.refl _) | (with_reducible assumption) | (with_reducible refine Ext.alloc ?_ _) | ((with_reducible refine Ext.setp ?_ ?_); focus (dsimp only; omega)) | (with_reducible refine Ext.drew ?_) | (with_reducible refine Ext.drewN ?_ _) | (with_reducible refine Ext.trans ?_ (by assumption))))), HD9.out.ext (by (repeat (first | (with_reducible exact Ext.refl _) | (with_reducible assumption) | (with_reducible refine Ext.alloc ?_ _) | ((with_reducible refine Ext.setp ?_ ?_); focus (dsimp only; omega)) | (with_reducible refine Ext.drew ?_) | (with_reducible refine Ext.drewN ?_ _) | (with_reducible refine Ext.trans ?_ (by assumption)))))⟩).mono ?_; rintro e W10 ⟨⟨v10, rfl, n10⟩, hx10⟩; obtain ⟨p13, q13, p14, q14, rfl⟩ := n10.shape; have e10 : Ext W9 W10 := Ext.trans (by (repeat (first | (with_reducible exact Ext.refl _) | (with_reducible assumption) | (with_reducible refine Ext.alloc ?_ _) | ((with_reducible refine Ext.setp ?_ ?_); focus (dsimp only; omega)) | (with_reducible refine Ext.drew ?_) | (with_reducible refine Ext.drewN ?_ _) | (with_reducible refine Ext.trans ?_ (by assumption))))) hx10; have t10 := e10.size; have x10 := x9.trans e10; have g10 := g9.ext e10; have h10 := h9.ext e10; have r10 := r9.ext e10; have y9 := hx10; have y8 := hx9.trans e10; have y7 := hx8.trans (e9.trans e10); have y6 := hx7.trans (e8.trans (e9.trans e10)); have q6 := fun h => (y6.block_at (b := W6.heap.size) h).1; have f6 := fun h => (y6.block_at (b := W6.heap.size) h).2; have u6 := fun (h : W6.heap.size < _) => Nat.lt_of_lt_of_le h y6.size; (try simp only [World.size_alloc, World.size_drew, Nat.lt_add_one, Nat.lt_irrefl, true_implies, false_implies, forall_const] at q6 f6 u6); have q7 := fun h => (y7.block_at (b := W7.heap.size) h).1; have f7 := fun h => (y7.block_at (b := W7.heap.size) h).2; have u7 := fun (h : W7.heap.size < _) => Nat.lt_of_lt_of_le h y7.size; (try simp only [World.size_alloc, World.size_drew, Nat.lt_add_one, Nat.lt_irrefl, true_implies, false_implies, forall_const] at q7 f7 u7); have q8 := fun h => (y8.block_at (b := W8.heap.size) h).1; have f8 := fun h => (y8.block_at (b := W8.heap.size) h).2; have u8 := fun (h : W8.heap.size < _) => Nat.lt_of_lt_of_le h y8.size; (try simp only [World.size_alloc, World.size_drew, Nat.lt_add_one, Nat.lt_irrefl, true_implies, false_implies, forall_const] at q8 f8 u8); have q9 := fun h => (y9.block_at (b := W9.heap.size) h).1; have f9 := fun h => (y9.block_at (b := W9.heap.size) h).2; have u9 := fun (h : W9.heap.size < _) => Nat.lt_of_lt_of_le h y9.size; (try simp only [World.size_alloc, World.size_drew, Nat.lt_add_one, Nat.lt_irrefl, true_implies, false_implies, forall_const] at q9 f9 u9); have N10 := Lib.hid (n10.from (x9.trans (by (repeat (first | (with_reducible exact Ext.refl _) | (with_reducible assumption) | (with_reducible refine Ext.alloc ?_ _) | ((with_reducible refine Ext.setp ?_ ?_); focus (dsimp only; omega)) | (with_reducible refine Ext.drew ?_) | (with_reducible refine Ext.drewN ?_ _) | (with_reducible refine Ext.trans ?_ (by assumption))))))); clear n10))
    · have B11 : Hid (Blk (W10.alloc (.cells #[.bool RS.neg, .slice p13 RS.num.length q13, .slice p14 RS.den.length q14] 33)) W10.heap.size #[.bool RS.neg, .slice p13 RS.num.length q13, .slice p14 RS.den.length q14] 33) := Lib.hid (Blk.new _ _ _)
      have R11 := Lib.hid (r10.alloc (.cells #[.bool RS.neg, .slice p13 RS.num.length q13, .slice p14 RS.den.length q14] 33))
      have X11 := Lib.hid (x10.alloc (.cells #[.bool RS.neg, .slice p13 RS.num.length q13, .slice p14 RS.den.length q14] 33))
      have N11 := Lib.hid (N10.out.ext ((Ext.refl W10).alloc (.cells #[.bool RS.neg, .slice p13 RS.num.length q13, .slice p14 RS.den.length q14] 33)))
      obtain ⟨bx, hbx⟩ : ∃ bx, bx = W10.heap.size := ⟨_, rfl⟩
      obtain ⟨w11, hw⟩ : ∃ w11, w11 = W10.alloc (.cells #[.bool RS.neg, .slice p13 RS.num.length q13, .slice p14 RS.den.length q14] 33) := ⟨_, rfl⟩
      rw [← hbx] at B11 ⊢
      rw [← hw] at B11 R11 X11 N11 ⊢
      have hlt : w.heap.size + 1 + 1 < bx := by omega
      clear hw hbx
      clear hx7 hx8 hx9 hx10 y6 y7 y8 y9 g6 g7 g8 g9 g10 h6 h7 h8 h9 h10 r6 r7 r8 r9 r10 N10
      have b11 := B11.out.cell; have fb11 := B11.out.free; have lb11 := B11.out.lt; have r11 := R11.out.cell; have fr11 := R11.out.free; have lr11 := R11.out.lt
      by_cases h1 : 128 < RS.num.length
      · have q1 : (128 : Int) < (RS.num.length : Int) := by omega
        have E := Lib.hid (fitR_long (q := vq T) (fun h => by have := h.1; rw [← HRS.out] at this; omega))
        clear h1
        go_wp2_with fail
        refine bodyPost_ret (v := .tuple #[.agg #[.bool false, .slice none 0 0, .slice none 0 0], .int .i64 4]) (by simp only [results, Tryz.results124]; go_simp) rfl ⟨ResR.mk (NewR.zero _ _) E.out, ?_⟩
        have := X11.out; (repeat (first | (with_reducible exact Ext.refl _) | (with_reducible assumption) | (with_reducible refine Ext.alloc ?_ _) | ((with_reducible refine Ext.setp ?_ ?_); focus (dsimp only; omega)) | (with_reducible refine Ext.drew ?_) | (with_reducible refine Ext.drewN ?_ _) | (with_reducible refine Ext.trans ?_ (by assumption))))
      · have q1 : ¬ (128 : Int) < (RS.num.length : Int) := by omega
        by_cases h2 : 128 < RS.den.length
        · have q2 : (128 : Int) < (RS.den.length : Int) := by omega
          have E := Lib.hid (fitR_long (q := vq T) (fun h => by have := h.2; rw [← HRS.out] at this; omega))
          clear h1 h2
          go_wp2_with fail
          refine bodyPost_ret (v := .tuple #[.agg #[.bool false, .slice none 0 0, .slice none 0 0], .int .i64 4]) (by simp only [results, Tryz.results124]; go_simp) rfl ⟨ResR.mk (NewR.zero _ _) E.out, ?_⟩
          have := X11.out; (repeat (first | (with_reducible exact Ext.refl _) | (with_reducible assumption) | (with_reducible refine Ext.alloc ?_ _) | ((with_reducible refine Ext.setp ?_ ?_); focus (dsimp only; omega)) | (with_reducible refine Ext.drew ?_) | (with_reducible refine Ext.drewN ?_ _) | (with_reducible refine Ext.trans ?_ (by assumption))))
        · have q2 : ¬ (128 : Int) < (RS.den.length : Int) := by omega
          have E := Lib.hid (fitR_ok (q := vq T) (by unfold small; rw [← HRS.out]; omega))
          clear h1 h2
          go_wp2_with fail
          refine bodyPost_ret (v := .tuple #[.agg #[.bool RS.neg, .slice p13 RS.num.length q13, .slice p14 RS.den.length q14], .int .i64 0]) (by simp only [results, Tryz.results124]; go_simp) rfl ⟨ResR.mk (NewR.set3 N11.out R11.out (by decide) _ _ _) (E.out.trans (by rw [← HRS.out])), ?_⟩
          have := X11.out; (repeat (first | (with_reducible exact Ext.refl _) | (with_reducible assumption) | (with_reducible refine Ext.alloc ?_ _) | ((with_reducible refine Ext.setp ?_ ?_); focus (dsimp only; omega)) | (with_reducible refine Ext.drew ?_) | (with_reducible refine Ext.drewN ?_ _) | (with_reducible refine Ext.trans ?_ (by assumption))))
    · have hB := ((Blk.new W9 #[.bool false, .slice none 0 0, .slice none 0 0] 33)).ext y9
      have B11 : Hid (Blk (((W10.setCell ⟨W9.heap.size, 0, none⟩ (.bool RS.neg)).setCell ⟨W9.heap.size, 1, none⟩ (.slice p13 RS.num.length q13)).setCell ⟨W9.heap.size, 2, none⟩ (.slice p14 RS.den.length q14)) W9.heap.size #[.bool RS.neg, .slice p13 RS.num.length q13, .slice p14 RS.den.length q14] 33) := by
        have h2 := ((hB.set 0 (.bool RS.neg)).set 1 (.slice p13 RS.num.length q13)).set 2 (.slice p14 RS.den.length q14)
        exact Lib.hid (by simpa using h2)
      have R11 := Lib.hid (((r10.setOther (a := ⟨W9.heap.size, 0, none⟩) (by dsimp only; omega) (.bool RS.neg)).setOther (a := ⟨W9.heap.size, 1, none⟩) (by dsimp only; omega) (.slice p13 RS.num.length q13)).setOther (a := ⟨W9.heap.size, 2, none⟩) (by dsimp only; omega) (.slice p14 RS.den.length q14))
      have X11 := Lib.hid (((x10.set (p := ⟨W9.heap.size, 0, none⟩) (by dsimp only; omega) (.bool RS.neg)).set (p := ⟨W9.heap.size, 1, none⟩) (by dsimp only; omega) (.slice p13 RS.num.length q13)).set (p := ⟨W9.heap.size, 2, none⟩) (by dsimp only; omega) (.slice p14 RS.den.length q14))
      have N11 := Lib.hid (NewR.set3 N10.out hB (by decide) (.bool RS.neg) (.slice p13 RS.num.length q13) (.slice p14 RS.den.length q14))
      obtain ⟨w11, hw⟩ : ∃ w11, w11 = ((W10.setCell ⟨W9.heap.size, 0, none⟩ (.bool RS.neg)).setCell ⟨W9.heap.size, 1, none⟩ (.slice p13 RS.num.length q13)).setCell ⟨W9.heap.size, 2, none⟩ (.slice p14 RS.den.length q14) := ⟨_, rfl⟩
      rw [← hw] at B11 R11 X11 N11 ⊢
      obtain ⟨bx, hbx⟩ : ∃ bx, bx = W9.heap.size := ⟨_, rfl⟩
      have hlt : w.heap.size + 1 + 1 < bx := by omega
      rw [← hbx] at B11 ⊢
      clear hw hbx hB
      clear hx7 hx8 hx9 hx10 y6 y7 y8 y9 g6 g7 g8 g9 g10 h6 h7 h8 h9 h10 r6 r7 r8 r9 r10 N10
      have b11 := B11.out.cell; have fb11 := B11.out.free; have lb11 := B11.out.lt; have r11 := R11.out.cell; have fr11 := R11.out.free; have lr11 := R11.out.lt
      by_cases h1 : 128 < RS.num.length
      · have q1 : (128 : Int) < (RS.num.length : Int) := by omega
        have E := Lib.hid (fitR_long (q := vq T) (fun h => by have := h.1; rw [← HRS.out] at this; omega))
        clear h1
        go_wp2_with fail
        refine bodyPost_ret (v := .tuple #[.agg #[.bool false, .slice none 0 0, .slice none 0 0], .int .i64 4]) (by simp only [results, Tryz.results124]; go_simp) rfl ⟨ResR.mk (NewR.zero _ _) E.out, ?_⟩
        have := X11.out; (repeat (first | (with_reducible exact Ext.refl _) | (with_reducible assumption) | (with_reducible refine Ext.alloc ?_ _) | ((with_reducible refine Ext.setp ?_ ?_); focus (dsimp only; omega)) | (with_reducible refine Ext.drew ?_) | (with_reducible refine Ext.drewN ?_ _) | (with_reducible refine Ext.trans ?_ (by assumption))))
      · have q1 : ¬ (128 : Int) < (RS.num.length : Int) := by omega
        by_cases h2 : 128 < RS.den.length
        · have q2 : (128 : Int) < (RS.den.length : Int) := by omega
          have E := Lib.hid (fitR_long (q := vq T) (fun h => by have := h.2; rw [← HRS.out] at this; omega))
          clear h1 h2
          go_wp2_with fail
          refine bodyPost_ret (v := .tuple #[.agg #[.bool false, .slice none 0 0, .slice none 0 0], .int .i64 4]) (by simp only [results, Tryz.results124]; go_simp) rfl ⟨ResR.mk (NewR.zero _ _) E.out, ?_⟩
          have := X11.out; (repeat (first | (with_reducible exact Ext.refl _) | (with_reducible assumption) | (with_reducible refine Ext.alloc ?_ _) | ((with_reducible refine Ext.setp ?_ ?_); focus (dsimp only; omega)) | (with_reducible refine Ext.drew ?_) | (with_reducible refine Ext.drewN ?_ _) | (with_reducible refine Ext.trans ?_ (by assumption))))
        · have q2 : ¬ (128 : Int) < (RS.den.length : Int) := by omega
          have E := Lib.hid (fitR_ok (q := vq T) (by unfold small; rw [← HRS.out]; omega))
          clear h1 h2
          go_wp2_with fail
          refine bodyPost_ret (v := .tuple #[.agg #[.bool RS.neg, .slice p13 RS.num.length q13, .slice p14 RS.den.length q14], .int .i64 0]) (by simp only [results, Tryz.results124]; go_simp) rfl ⟨ResR.mk (NewR.set3 N11.out R11.out (by decide) _ _ _) (E.out.trans (by rw [← HRS.out])), ?_⟩
          have := X11.out; (repeat (first | (with_reducible exact Ext.refl _) | (with_reducible assumption) | (with_reducible refine Ext.alloc ?_ _) | ((with_reducible refine Ext.setp ?_ ?_); focus (dsimp only; omega)) | (with_reducible refine Ext.drew ?_) | (with_reducible refine Ext.drewN ?_ _) | (with_reducible refine Ext.trans ?_ (by assumption))))
    · have hB := ((Blk.new W8 #[.bool false, .slice none 0 0, .slice none 0 0] 33)).ext y8
      have B11 : Hid (Blk (((W10.setCell ⟨W8.heap.size, 0, none⟩ (.bool RS.neg)).setCell ⟨W8.heap.size, 1, none⟩ (.slice p13 RS.num.length q13)).setCell ⟨W8.heap.size, 2, none⟩ (.slice p14 RS.den.length q14)) W8.heap.size #[.bool RS.neg, .slice p13 RS.num.length q13, .slice p14 RS.den.length q14] 33) := by
        have h2 := ((hB.set 0 (.bool RS.neg)).set 1 (.slice p13 RS.num.length q13)).set 2 (.slice p14 RS.den.length q14)
        exact Lib.hid (by simpa using h2)
      have R11 := Lib.hid (((r10.setOther (a := ⟨W8.heap.size, 0, none⟩) (by dsimp only; omega) (.bool RS.neg)).setOther (a := ⟨W8.heap.size, 1, none⟩) (by dsimp only; omega) (.slice p13 RS.num.length q13)).setOther (a := ⟨W8.heap.size, 2, none⟩) (by dsimp only; omega) (.slice p14 RS.den.length q14))
      have X11 := Lib.hid (((x10.set (p := ⟨W8.heap.size, 0, none⟩) (by dsimp only; omega) (.bool RS.neg)).set (p := ⟨W8.heap.size, 1, none⟩) (by dsimp only; omega) (.slice p13 RS.num.length q13)).set (p := ⟨W8.heap.size, 2, none⟩) (by dsimp only; omega) (.slice p14 RS.den.length q14))
      have N11 := Lib.hid (NewR.set3 N10.out hB (by decide) (.bool RS.neg) (.slice p13 RS.num.length q13) (.slice p14 RS.den.length q14))
      obtain ⟨w11, hw⟩ : ∃ w11, w11 = ((W10.setCell ⟨W8.heap.size, 0, none⟩ (.bool RS.neg)).setCell ⟨W8.heap.size, 1, none⟩ (.slice p13 RS.num.length q13)).setCell ⟨W8.heap.size, 2, none⟩ (.slice p14 RS.den.length q14) := ⟨_, rfl⟩
      rw [← hw] at B11 R11 X11 N11 ⊢
      obtain ⟨bx, hbx⟩ : ∃ bx, bx = W8.heap.size := ⟨_, rfl⟩
      have hlt : w.heap.size + 1 + 1 < bx := by omega
      rw [← hbx] at B11 ⊢
      clear hw hbx hB
      clear hx7 hx8 hx9 hx10 y6 y7 y8 y9 g6 g7 g8 g9 g10 h6 h7 h8 h9 h10 r6 r7 r8 r9 r10 N10
      have b11 := B11.out.cell; have fb11 := B11.out.free; have lb11 := B11.out.lt; have r11 := R11.out.cell; have fr11 := R11.out.free; have lr11 := R11.out.lt
      by_cases h1 : 128 < RS.num.length
      · have q1 : (128 : Int) < (RS.num.length : Int) := by omega
        have E := Lib.hid (fitR_long (q := vq T) (fun h => by have := h.1; rw [← HRS.out] at this; omega))
        clear h1
        go_wp2_with fail
        refine bodyPost_ret (v := .tuple #[.agg #[.bool false, .slice none 0 0, .slice none 0 0], .int .i64 4]) (by simp only [results, Tryz.results124]; go_simp) rfl ⟨ResR.mk (NewR.zero _ _) E.out, ?_⟩
        have := X11.out; (repeat (first | (with_reducible exact Ext.refl _) | (with_reducible assumption) | (with_reducible refine Ext.alloc ?_ _) | ((with_reducible refine Ext.setp ?_ ?_); focus (dsimp only; omega)) | (with_reducible refine Ext.drew ?_) | (with_reducible refine Ext.drewN ?_ _) | (with_reducible refine Ext.trans ?_ (by assumption))))
      · have q1 : ¬ (128 : Int) < (RS.num.length : Int) := by omega
        by_cases h2 : 128 < RS.den.length
        · have q2 : (128 : Int) < (RS.den.length : Int) := by omega
          have E := Lib.hid (fitR_long (q := vq T) (fun h => by have := h.2; rw [← HRS.out] at this; omega))
          clear h1 h2
          go_wp2_with fail
          refine bodyPost_ret (v := .tuple #[.agg #[.bool false, .slice none 0 0, .slice none 0 0], .int .i64 4]) (by simp only [results, Tryz.results124]; go_simp) rfl ⟨ResR.mk (NewR.zero _ _) E.out, ?_⟩
          have := X11.out; (repeat (first | (with_reducible exact Ext.refl _) | (with_reducible assumption) | (with_reducible refine Ext.alloc ?_ _) | ((with_reducible refine Ext.setp ?_ ?_); focus (dsimp only; omega)) | (with_reducible refine Ext.drew ?_) | (with_reducible refine Ext.drewN ?_ _) | (with_reducible refine Ext.trans ?_ (by assumption))))
        · have q2 : ¬ (128 : Int) < (RS.den.length : Int) := by omega
          have E := Lib.hid (fitR_ok (q := vq T) (by unfold small; rw [← HRS.out]; omega))
          clear h1 h2
          go_wp2_with fail
          refine bodyPost_ret (v := .tuple #[.agg #[.bool RS.neg, .slice p13 RS.num.length q13, .slice p14 RS.den.length q14], .int .i64 0]) (by simp only [results, Tryz.results124]; go_simp) rfl ⟨ResR.mk (NewR.set3 N11.out R11.out (by decide) _ _ _) (E.out.trans (by rw [← HRS.out])), ?_⟩
          have := X11.out; (repeat (first | (with_reducible exact Ext.refl _) | (with_reducible assumption) | (with_reducible refine Ext.alloc ?_ _) | ((with_reducible refine Ext.setp ?_ ?_); focus (dsimp only; omega)) | (with_reducible refine Ext.drew ?_) | (with_reducible refine Ext.drewN ?_ _) | (with_reducible refine Ext.trans ?_ (by assumption))))
    · have hB := ((Blk.new W7 #[.bool false, .slice none 0 0, .slice none 0 0] 33)).ext y7
      have B11 : Hid (Blk (((W10.setCell ⟨W7.heap.size, 0, none⟩ (.bool RS.neg)).setCell ⟨W7.heap.size, 1, none⟩ (.slice p13 RS.num.length q13)).setCell ⟨W7.heap.size, 2, none⟩ (.slice p14 RS.den.length q14)) W7.heap.size #[.bool RS.neg, .slice p13 RS.num.length q13, .slice p14 RS.den.length q14] 33) := by
        have h2 := ((hB.set 0 (.bool RS.neg)).set 1 (.slice p13 RS.num.length q13)).set 2 (.slice p14 RS.den.length q14)
        exact Lib.hid (by simpa using h2)
      have R11 := Lib.hid (((r10.setOther (a := ⟨W7.heap.size, 0, none⟩) (by dsimp only; omega) (.bool RS.neg)).setOther (a := ⟨W7.heap.size, 1, none⟩) (by dsimp only; omega) (.slice p13 RS.num.length q13)).setOther (a := ⟨W7.heap.size, 2, none⟩) (by dsimp only; omega) (.slice p14 RS.den.length q14))
      have X11 := Lib.hid (((x10.set (p := ⟨W7.heap.size, 0, none⟩) (by dsimp only; omega) (.bool RS.neg)).set (p := ⟨W7.heap.size, 1, none⟩) (by dsimp only; omega) (.slice p13 RS.num.length q13)).set (p := ⟨W7.heap.size, 2, none⟩) (by dsimp only; omega) (.slice p14 RS.den.length q14))
      have N11 := Lib.hid (NewR.set3 N10.out hB (by decide) (.bool RS.neg) (.slice p13 RS.num.length q13) (.slice p14 RS.den.length q14))
      obtain ⟨w11, hw⟩ : ∃ w11, w11 = ((W10.setCell ⟨W7.heap.size, 0, none⟩ (.bool RS.neg)).setCell ⟨W7.heap.size, 1, none⟩ (.slice p13 RS.num.length q13)).setCell ⟨W7.heap.size, 2, none⟩ (.slice p14 RS.den.length q14) := ⟨_, rfl⟩
      rw [← hw] at B11 R11 X11 N11 ⊢
      obtain ⟨bx, hbx⟩ : ∃ bx, bx = W7.heap.size := ⟨_, rfl⟩
      have hlt : w.heap.size + 1 + 1 < bx := by omega
      rw [← hbx] at B11 ⊢
      clear hw hbx hB
      clear hx7 hx8 hx9 hx10 y6 y7 y8 y9 g6 g7 g8 g9 g10 h6 h7 h8 h9 h10 r6 r7 r8 r9 r10 N10
      have b11 := B11.out.cell; have fb11 := B11.out.free; have lb11 := B11.out.lt; have r11 := R11.out.cell; have fr11 := R11.out.free; have lr11 := R11.out.lt
      by_cases h1 : 128 < RS.num.length
      · have q1 : (128 : Int) < (RS.num.length : Int) := by omega
        have E := Lib.hid (fitR_long (q := vq T) (fun h => by have := h.1; rw [← HRS.out] at this; omega))
        clear h1
        go_wp2_with fail
        refine bodyPost_ret (v := .tuple #[.agg #[.bool false, .slice none 0 0, .slice none 0 0], .int .i64 4]) (by simp only [results, Tryz.results124]; go_simp) rfl ⟨ResR.mk (NewR.zero _ _) E.out, ?_⟩
        have := X11.out; (repeat (first | (with_reducible exact Ext.refl _) | (with_reducible assumption) | (with_reducible refine Ext.alloc ?_ _) | ((with_reducible refine Ext.setp ?_ ?_); focus (dsimp only; omega)) | (with_reducible refine Ext.drew ?_) | (with_reducible refine Ext.drewN ?_ _) | (with_reducible refine Ext.trans ?_ (by assumption))))
      · have q1 : ¬ (128 : Int) < (RS.num.length : Int) := by omega
        by_cases h2 : 128 < RS.den.length
        · have q2 : (128 : Int) < (RS.den.length : Int) := by omega
          have E := Lib.hid (fitR_long (q := vq T) (fun h => by have := h.2; rw [← HRS.out] at this; omega))
          clear h1 h2
          go_wp2_with fail
          refine bodyPost_ret (v := .tuple #[.agg #[.bool false, .slice none 0 0, .slice none 0 0], .int .i64 4]) (by simp only [results, Tryz.results124]; go_simp) rfl ⟨ResR.mk (NewR.zero _ _) E.out, ?_⟩
          have := X11.out; (repeat (first | (with_reducible exact Ext.refl _) | (with_reducible assumption) | (with_reducible refine Ext.alloc ?_ _) | ((with_reducible refine Ext.setp ?_ ?_); focus (dsimp only; omega)) | (with_reducible refine Ext.drew ?_) | (with_reducible refine Ext.drewN ?_ _) | (with_reducible refine Ext.trans ?_ (by assumption))))
        · have q2 : ¬ (128 : Int) < (RS.den.length : Int) := by omega
          have E := Lib.hid (fitR_ok (q := vq T) (by unfold small; rw [← HRS.out]; omega))
          clear h1 h2
          go_wp2_with fail
          refine bodyPost_ret (v := .tuple #[.agg #[.bool RS.neg, .slice p13 RS.num.length q13, .slice p14 RS.den.length q14], .int .i64 0]) (by simp only [results, Tryz.results124]; go_simp) rfl ⟨ResR.mk (NewR.set3 N11.out R11.out (by decide) _ _ _) (E.out.trans (by rw [← HRS.out])), ?_⟩
          have := X11.out; (repeat (first | (with_reducible exact Ext.refl _) | (with_reducible assumption) | (with_reducible refine Ext.alloc ?_ _) | ((with_reducible refine Ext.setp ?_ ?_); focus (dsimp only; omega)) | (with_reducible refine Ext.drew ?_) | (with_reducible refine Ext.drewN ?_ _) | (with_reducible refine Ext.trans ?_ (by assumption))))
    · have hB := ((Blk.new W6 #[.bool false, .slice none 0 0, .slice none 0 0] 33).drew).ext y6
      have B11 : Hid (Blk (((W10.setCell ⟨W6.heap.size, 0, none⟩ (.bool RS.neg)).setCell ⟨W6.heap.size, 1, none⟩ (.slice p13 RS.num.length q13)).setCell ⟨W6.heap.size, 2, none⟩ (.slice p14 RS.den.length q14)) W6.heap.size #[.bool RS.neg, .slice p13 RS.num.length q13, .slice p14 RS.den.length q14] 33) := by
        have h2 := ((hB.set 0 (.bool RS.neg)).set 1 (.slice p13 RS.num.length q13)).set 2 (.slice p14 RS.den.length q14)
        exact Lib.hid (by simpa using h2)
      have R11 := Lib.hid (((r10.setOther (a := ⟨W6.heap.size, 0, none⟩) (by dsimp only; omega) (.bool RS.neg)).setOther (a := ⟨W6.heap.size, 1, none⟩) (by dsimp only; omega) (.slice p13 RS.num.length q13)).setOther (a := ⟨W6.heap.size, 2, none⟩) (by dsimp only; omega) (.slice p14 RS.den.length q14))
      have X11 := Lib.hid (((x10.set (p := ⟨W6.heap.size, 0, none⟩) (by dsimp only; omega) (.bool RS.neg)).set (p := ⟨W6.heap.size, 1, none⟩) (by dsimp only; omega) (.slice p13 RS.num.length q13)).set (p := ⟨W6.heap.size, 2, none⟩) (by dsimp only; omega) (.slice p14 RS.den.length q14))
      have N11 := Lib.hid (NewR.set3 N10.out hB (by decide) (.bool RS.neg) (.slice p13 RS.num.length q13) (.slice p14 RS.den.length q14))
      obtain ⟨w11, hw⟩ : ∃ w11, w11 = ((W10.setCell ⟨W6.heap.size, 0, none⟩ (.bool RS.neg)).setCell ⟨W6.heap.size, 1, none⟩ (.slice p13 RS.num.length q13)).setCell ⟨W6.heap.size, 2, none⟩ (.slice p14 RS.den.length q14) := ⟨_, rfl⟩
      rw [← hw] at B11 R11 X11 N11 ⊢
      obtain ⟨bx, hbx⟩ : ∃ bx, bx = W6.heap.size := ⟨_, rfl⟩
      have hlt : w.heap.size + 1 + 1 < bx := by omega
      rw [← hbx] at B11 ⊢
      clear hw hbx hB
      clear hx7 hx8 hx9 hx10 y6 y7 y8 y9 g6 g7 g8 g9 g10 h6 h7 h8 h9 h10 r6 r7 r8 r9 r10 N10
      have b11 := B11.out.cell; have fb11 := B11.out.free; have lb11 := B11.out.lt; have r11 := R11.out.cell; have fr11 := R11.out.free; have lr11 := R11.out.lt
      by_cases h1 : 128 < RS.num.length
      · have q1 : (128 : Int) < (RS.num.length : Int) := by omega
        have E := Lib.hid (fitR_long (q := vq T) (fun h => by have := h.1; rw [← HRS.out] at this; omega))
        clear h1
        go_wp2_with fail
        refine bodyPost_ret (v := .tuple #[.agg #[.bool false, .slice none 0 0, .slice none 0 0], .int .i64 4]) (by simp only [results, Tryz.results124]; go_simp) rfl ⟨ResR.mk (NewR.zero _ _) E.out, ?_⟩
        have := X11.out; (repeat (first | (with_reducible exact Ext.refl _) | (with_reducible assumption) | (with_reducible refine Ext.alloc ?_ _) | ((with_reducible refine Ext.setp ?_ ?_); focus (dsimp only; omega)) | (with_reducible refine Ext.drew ?_) | (with_reducible refine Ext.drewN ?_ _) | (with_reducible refine Ext.trans ?_ (by assumption))))
      · have q1 : ¬ (128 : Int) < (RS.num.length : Int) := by omega
        by_cases h2 : 128 < RS.den.length
        · have q2 : (128 : Int) < (RS.den.length : Int) := by omega
          have E := Lib.hid (fitR_long (q := vq T) (fun h => by have := h.2; rw [← HRS.out] at this; omega))
          clear h1 h2
          go_wp2_with fail
          refine bodyPost_ret (v := .tuple #[.agg #[.bool false, .slice none 0 0, .slice none 0 0], .int .i64 4]) (by simp only [results, Tryz.results124]; go_simp) rfl ⟨ResR.mk (NewR.zero _ _) E.out, ?_⟩
          have := X11.out; (repeat (first | (with_reducible exact Ext.refl _) | (with_reducible assumption) | (with_reducible refine Ext.alloc ?_ _) | ((with_reducible refine Ext.setp ?_ ?_); focus (dsimp only; omega)) | (with_reducible refine Ext.drew ?_) | (with_reducible refine Ext.drewN ?_ _) | (with_reducible refine Ext.trans ?_ (by assumption))))
        · have q2 : ¬ (128 : Int) < (RS.den.length : Int) := by omega
          have E := Lib.hid (fitR_ok (q := vq T) (by unfold small; rw [← HRS.out]; omega))
          clear h1 h2
          go_wp2_with fail
          refine bodyPost_ret (v := .tuple #[.agg #[.bool RS.neg, .slice p13 RS.num.length q13, .slice p14 RS.den.length q14], .int .i64 0]) (by simp only [results, Tryz.results124]; go_simp) rfl ⟨ResR.mk (NewR.set3 N11.out R11.out (by decide) _ _ _) (E.out.trans (by rw [← HRS.out])), ?_⟩
          have := X11.out; (repeat (first | (with_reducible exact Ext.refl _) | (with_reducible assumption) | (with_reducible refine Ext.alloc ?_ _) | ((with_reducible refine Ext.setp ?_ ?_); focus (dsimp only; omega)) | (with_reducible refine Ext.drew ?_) | (with_reducible refine Ext.drewN ?_ _) | (with_reducible refine Ext.trans ?_ (by assumption))))
  · have eo : opR ⟨s1, l1, l2⟩ ⟨s2, l3, l4⟩ (fitR (vq T)) = (zR, chkR2 ⟨s1, l1, l2⟩ ⟨s2, l3, l4⟩) := by unfold opR; rw [if_neg hc]
    unfold chkR2 at eo hc
    obtain ⟨ca, hca⟩ : ∃ ca, ca = chkR ⟨s1, l1, l2⟩ := ⟨_, rfl⟩
    obtain ⟨cb, hcb⟩ : ∃ cb, cb = chkR ⟨s2, l3, l4⟩ := ⟨_, rfl⟩
    rw [← hca] at HCA eo hc
    rw [← hcb] at HCB eo hc
    obtain ⟨cc, hcc⟩ : ∃ cc, cc = orE ca cb := ⟨_, rfl⟩
    rw [← hcc] at eo hc
    have EO := Lib.hid eo
    have hor := fun g W h => orE_any ca cb g W h
    rw [← hcc] at hor
    have HOR := Lib.hid hor
    have hcb' : (cc != 0) = true := by simpa using hc
    clear hca hcb hcc eo hor hc HT HF
    go_enter Tryz.func124, Tryz.ntmps124
    go_wp2_with fail
    have hmx : Tryz.prog.follows .mixedOrders = true := by kernel_rfl
    go_region_held3 (fun W => (Blk W w.heap.size #[.bool s1, .slice a1 l1.length c1, .slice a2 l2.length c2] 33 ∧ W.cell? ⟨w.heap.size, 0, none⟩ = some (.bool s1) ∧ W.cell? ⟨w.heap.size, 1, none⟩ = some (.slice a1 l1.length c1) ∧ W.cell? ⟨w.heap.size, 2, none⟩ = some (.slice a2 l2.length c2)) ∧ (Blk W (w.heap.size + 1) #[.bool s2, .slice a3 l3.length c3, .slice a4 l4.length c4] 33 ∧ W.cell? ⟨w.heap.size + 1, 0, none⟩ = some (.bool s2) ∧ W.cell? ⟨w.heap.size + 1, 1, none⟩ = some (.slice a3 l3.length c3) ∧ W.cell? ⟨w.heap.size + 1, 2, none⟩ = some (.slice a4 l4.length c4)))
      ((refine ⟨Blk.s3 ?_, Blk.s3 ?_⟩ <;> (repeat (first | exact A0.out | exact A1.out | exact k1 | exact k2 | exact k4 | exact k5 | exact k7 | exact k8 | refine Blk.setOther ?_ (by dsimp only; omega) _ | refine Blk.alloc ?_ _ | refine Blk.drew ?_))))
      (first | (go_at_call_of 68 (Value.slice a1 l1.length c1); refine (HCA.out _ (by (repeat (first | (with_reducible exact Ext.refl _) | (with_reducible assumption) | (with_reducible refine Ext.alloc ?_ _) | ((with_reducible refine Ext.setp ?_ ?_); focus (dsimp only; omega)) | (with_reducible refine Ext.drew ?_) | (with_reducible refine Ext.drewN ?_ _) | (with_reducible refine Ext.trans ?_ (by assumption)))))).mono ?_; rintro e W4 ⟨rfl, hx4⟩; have x4 := Ext.trans x0 (Ext.trans (by (repeat (first | (with_reducible exact Ext.refl _) | (with_reducible assumption) | (with_reducible refine Ext.alloc ?_ _) | ((with_reducible refine Ext.setp ?_ ?_); focus (dsimp only; omega)) | (with_reducible refine Ext.drew ?_) | (with_reducible refine Ext.drewN ?_ _) | (with_reducible refine Ext.trans ?_ (by assumption))))) hx4); have k1 := A0.out.ext (Ext.trans (by (repeat (first | (with_reducible exact Ext.refl _) | (with_reducible assumption) | (with_reducible refine Ext.alloc ?_ _) | ((with_reducible refine Ext.setp ?_ ?_); focus (dsimp only; omega)) | (with_reducible refine Ext.drew ?_) | (with_reducible refine Ext.drewN ?_ _) | (with_reducible refine Ext.trans ?_ (by assumption))))) hx4); have k2 := A1.out.ext (Ext.trans (by (repeat (first | (with_reducible exact Ext.refl _) | (with_reducible assumption) | (with_reducible refine Ext.alloc ?_ _) | ((with_reducible refine Ext.setp ?_ ?_); focus (dsimp only; omega)) | (with_reducible refine Ext.drew ?_) | (with_reducible refine Ext.drewN ?_ _) | (with_reducible refine Ext.trans ?_ (by assumption))))) hx4); have k3 := A2.out.ext (Ext.trans (by (repeat (first | (with_reducible exact Ext.refl _) | (with_reducible assumption) | (with_reducible refine Ext.alloc ?_ _) | ((with_reducible refine Ext.setp ?_ ?_); focus (dsimp only; omega)) | (with_reducible refine Ext.drew ?_) | (with_reducible refine Ext.drewN ?_ _) | (with_reducible refine Ext.trans ?_ (by assumption))))) hx4)) | (go_at_call_of 68 (Value.slice a3 l3.length c3); refine (HCB.out _ (by (repeat (first | (with_reducible exact Ext.refl _) | (with_reducible assumption) | (with_reducible refine Ext.alloc ?_ _) | ((with_reducible refine Ext.setp ?_ ?_); focus (dsimp only; omega)) | (with_reducible refine Ext.drew ?_) | (with_reducible refine Ext.drewN ?_ _) | (with_reducible refine Ext.trans ?_ (by assumption)))))).mono ?_; rintro e W5 ⟨rfl, hx5⟩; have x5 := x4.trans hx5; have k4 := k1.ext hx5; have k5 := k2.ext hx5; have k6 := k3.ext hx5) | (go_at_call 128; refine (HOR.out _ _ (Blk.new W5 _ _)).mono ?_; rintro e W6 ⟨rfl, hx6⟩; have x6 := (x5.alloc _).trans hx6; have k7 := (k4.alloc _).ext hx6; have k8 := (k5.alloc _).ext hx6; have k9 := (k6.alloc _).ext hx6))
    have K9 := Lib.hid k9; have X6 := Lib.hid x6
    have c9 := k9.cell; have f9 := k9.free; have l9 := k9.lt
    go_wp2_with fail
    refine bodyPost_ret (v := .tuple #[.agg #[.bool false, .slice none 0 0, .slice none 0 0], .int .i64 cc]) (by simp only [results, Tryz.results124]; go_simp) rfl ⟨ResR.mk (NewR.zero _ _) EO.out, ?_⟩
    have := X6.out; (repeat (first | (with_reducible exact Ext.refl _) | (with_reducible assumption) | (with_reducible refine Ext.alloc ?_ _) | ((with_reducible refine Ext.setp ?_ ?_); focus (dsimp only; omega)) | (with_reducible refine Ext.drew ?_) | (with_reducible refine Ext.drewN ?_ _) | (with_reducible refine Ext.trans ?_ (by assumption))))
end Go.Proofs.YtbnalhmcbolngaaGreat
namespace Go.Proofs.YtbnalhmcbolngaaGreat
set_option linter.unusedSimpArgs false
set_option linter.unusedVariables false
open Go.RowKit
theorem valid_len {r : RR} (hl : LimR r) (h : chkR r = 0) : r.num.length ≤ 128 ∧ (dl r.den).length ≤ 128 ∧ NoZ r.num ∧ NoZ (dl r.den) ∧ nv (dl r.den) ≠ 0 ∧ Lim (dl r.den) := by
  obtain ⟨h1, h2, h3, h4, _⟩ := chkR_0 hl h
  refine ⟨h1, len_dl h2 (by omega), h3, noZ_dl h4, ?_, lim_dl hl.2⟩
  rw [nv_dl]; exact vof_den hl h
def vod (r : RR) : Bool × Nat × Nat := (r.neg, nv r.num, nv (dl r.den))
theorem vod_vof (r : RR) : vod r = vof r := by unfold vod vof; rw [nv_dl]
theorem opR_congr {a b : RR} {x y : RR × Int} (h : chkR2 a b = 0 → x = y) : opR a b x = opR a b y := by
  unfold opR
  by_cases hc : chkR2 a b = 0
  · rw [if_pos hc, if_pos hc, h hc]
  · rw [if_neg hc, if_neg hc]
theorem sumV_le (a b : Bool × Nat × Nat) : (sumV a b).2.1 ≤ a.2.1 * b.2.2 + b.2.1 * a.2.2 := by
  unfold sumV
  split
  · exact Nat.le_refl _
  · split
    · dsimp only; omega
    · dsimp only; omega
theorem sumV_den (a b : Bool × Nat × Nat) : (sumV a b).2.2 = a.2.2 * b.2.2 := by
  unfold sumV
  split
  · rfl
  · split <;> rfl
theorem prod_lt {x y a b : Nat} (hx : x < 4294967296 ^ a) (hy : y < 4294967296 ^ b) : x * y < 4294967296 ^ (a + b) := by
  rw [Nat.pow_add]; exact Nat.mul_lt_mul'' hx hy
theorem lt_of_len {l : List Int} (h : Lim l) {k : Nat} (hk : l.length ≤ k) : nv l < 4294967296 ^ k := Nat.lt_of_lt_of_le (nv_lt h) (pow_le hk)
theorem len_prod {l1 l2 : List Int} (h1 : Lim l1) (h2 : Lim l2) {k : Nat} (k1 : l1.length ≤ k) (k2 : l2.length ≤ k) : (lim (nv l1 * nv l2)).length ≤ k + k := lim_len_le.2 (prod_lt (lt_of_len h1 k1) (lt_of_len h2 k2))
theorem len_sum {x y k : Nat} (hx : (lim x).length ≤ k) (hy : (lim y).length ≤ k) {z : Nat} (hz : z ≤ x + y) : (lim z).length ≤ k + 1 :=
  lim_len_le.2 (Nat.lt_of_le_of_lt hz (lt_max k k k (Nat.le_refl _) (Nat.le_refl _) (lim_len_le.1 hx) (lim_len_le.1 hy)))
theorem sumV_fits {ra rb : RR} (s : Bool) (la : LimR ra) (lb : LimR rb) (ha : chkR ra = 0) (hb : chkR rb = 0) :
    (sumV (vod ra) (s, nv rb.num, nv (dl rb.den))).2.2 ≠ 0 ∧ (lim (sumV (vod ra) (s, nv rb.num, nv (dl rb.den))).2.1).length ≤ 512 ∧ (lim (sumV (vod ra) (s, nv rb.num, nv (dl rb.den))).2.2).length ≤ 512 := by
  obtain ⟨p1, p2, p3, p4, p5, p6⟩ := valid_len la ha
  obtain ⟨q1, q2, q3, q4, q5, q6⟩ := valid_len lb hb
  have e1 := len_prod la.1 q6 p1 q2
  have e2 := len_prod lb.1 p6 q1 p2
  have e3 := len_prod p6 q6 p2 q2
  have e4 := len_sum e1 e2 (sumV_le (vod ra) (s, nv rb.num, nv (dl rb.den)))
  refine ⟨?_, by omega, ?_⟩
  · rw [sumV_den]; exact Nat.mul_ne_zero p5 q5
  · rw [sumV_den]; exact Nat.le_trans e3 (by omega)
theorem vq_neg (s : Bool) (n d : Nat) : vq (!s, n, d) = - vq (s, n, d) := by
  unfold vq
  dsimp only
  rw [Rat.neg_mkRat]
  congr 1
  cases s <;> simp [sg]
theorem vq_inv {b : RR} (hl : LimR b) (h : chkR b = 0) (h0 : b.num ≠ []) : vq (b.neg, nv (dl b.den), nv b.num) = (qv b)⁻¹ := by
  have hn : nv b.num ≠ 0 := nv_ne hl.1 (chkR_0 hl h).2.2.1 h0
  have e := (valid_rep hl h).1
  have e2 := (valid_rep hl h).2.1
  rw [Rat.inv_def, e, e2, nv_dl]
  unfold vq
  dsimp only
  cases b.neg
  · show mkRat (sg false _) _ = Rat.divInt (dnv b.den : Int) (sg false (nv b.num))
    unfold sg; simp
  · show mkRat (sg true _) _ = Rat.divInt (dnv b.den : Int) (sg true (nv b.num))
    unfold sg
    simp only [if_true]
    rw [Rat.divInt_neg', Rat.divInt_ofNat]
theorem operate_add (va vb : Value) (ra rb : RR) (w : World) (ha : RdR w va ra) (hb : RdR w vb rb) (la : LimR ra) (lb : LimR rb) :
    Calls Tryz.prog 124 #[va, vb, .func (.func 125) #[] #[]] w fun e w' => ResR w w' e (addR ra rb) ∧ Ext w w' := by
  have h := operate_any 125 (enters_of Tryz.func125 (by kernel_rfl) rfl) va vb ra rb w ha hb la lb (sumV (vod ra) (rb.neg, nv rb.num, nv (dl rb.den)))
    (fun hc => sumV_fits rb.neg la lb (chkR2_0 hc).1 (chkR2_0 hc).2)
    (fun hc W v1 v2 h1 h2 => by
      obtain ⟨p1, p2, p3, p4, p5, p6⟩ := valid_len la (chkR2_0 hc).1
      obtain ⟨q1, q2, q3, q4, q5, q6⟩ := valid_len lb (chkR2_0 hc).2
      exact sumR_any v1 v2 ra.neg rb.neg ra.num (dl ra.den) rb.num (dl rb.den) W h1 h2 la.1 p6 lb.1 q6 p3 p4 q3 q4 (by omega) (by omega) (by omega) (by omega))
  have e : opR ra rb (fitR (vq (sumV (vod ra) (rb.neg, nv rb.num, nv (dl rb.den))))) = addR ra rb := opR_congr fun hc => by
    obtain ⟨p1, p2, p3, p4, p5, p6⟩ := valid_len la (chkR2_0 hc).1
    obtain ⟨q1, q2, q3, q4, q5, q6⟩ := valid_len lb (chkR2_0 hc).2
    rw [vq_sum p5 q5, vod_vof, vq_vof]
    show fitR (qv ra + vq (vod rb)) = _
    rw [vod_vof, vq_vof]
  rwa [e] at h
theorem operate_sub (va vb : Value) (ra rb : RR) (w : World) (ha : RdR w va ra) (hb : RdR w vb rb) (la : LimR ra) (lb : LimR rb) :
    Calls Tryz.prog 124 #[va, vb, .func (.func 126) #[] #[]] w fun e w' => ResR w w' e (subR ra rb) ∧ Ext w w' := by
  have h := operate_any 126 (enters_of Tryz.func126 (by kernel_rfl) rfl) va vb ra rb w ha hb la lb (sumV (vod ra) (!rb.neg, nv rb.num, nv (dl rb.den)))
    (fun hc => sumV_fits (!rb.neg) la lb (chkR2_0 hc).1 (chkR2_0 hc).2)
    (fun hc W v1 v2 h1 h2 => by
      obtain ⟨p1, p2, p3, p4, p5, p6⟩ := valid_len la (chkR2_0 hc).1
      obtain ⟨q1, q2, q3, q4, q5, q6⟩ := valid_len lb (chkR2_0 hc).2
      exact subR1_any v1 v2 ra.neg rb.neg ra.num (dl ra.den) rb.num (dl rb.den) W h1 h2 la.1 p6 lb.1 q6 p3 p4 q3 q4 (by omega) (by omega) (by omega) (by omega))
  have e : opR ra rb (fitR (vq (sumV (vod ra) (!rb.neg, nv rb.num, nv (dl rb.den))))) = subR ra rb := opR_congr fun hc => by
    obtain ⟨p1, p2, p3, p4, p5, p6⟩ := valid_len la (chkR2_0 hc).1
    obtain ⟨q1, q2, q3, q4, q5, q6⟩ := valid_len lb (chkR2_0 hc).2
    rw [vq_sum p5 q5, vod_vof, vq_vof, vq_neg]
    show fitR (qv ra + - vq (vod rb)) = _
    rw [vod_vof, vq_vof, ← Rat.sub_eq_add_neg]
  rwa [e] at h
theorem operate_mul (va vb : Value) (ra rb : RR) (w : World) (ha : RdR w va ra) (hb : RdR w vb rb) (la : LimR ra) (lb : LimR rb) :
    Calls Tryz.prog 124 #[va, vb, .func (.func 127) #[] #[]] w fun e w' => ResR w w' e (mulR ra rb) ∧ Ext w w' := by
  have h := operate_any 127 (enters_of Tryz.func127 (by kernel_rfl) rfl) va vb ra rb w ha hb la lb (prodV (vod ra) (vod rb))
    (fun hc => by
      obtain ⟨p1, p2, p3, p4, p5, p6⟩ := valid_len la (chkR2_0 hc).1
      obtain ⟨q1, q2, q3, q4, q5, q6⟩ := valid_len lb (chkR2_0 hc).2
      exact ⟨Nat.mul_ne_zero p5 q5, Nat.le_trans (len_prod la.1 lb.1 p1 q1) (by omega), Nat.le_trans (len_prod p6 q6 p2 q2) (by omega)⟩)
    (fun hc W v1 v2 h1 h2 => by
      obtain ⟨p1, p2, p3, p4, p5, p6⟩ := valid_len la (chkR2_0 hc).1
      obtain ⟨q1, q2, q3, q4, q5, q6⟩ := valid_len lb (chkR2_0 hc).2
      exact productR_any v1 v2 ra.neg rb.neg ra.num (dl ra.den) rb.num (dl rb.den) W h1 h2 la.1 p6 lb.1 q6 p3 p4 q3 q4 (by omega) (by omega) (by omega) (by omega))
  have e : opR ra rb (fitR (vq (prodV (vod ra) (vod rb)))) = mulR ra rb := opR_congr fun hc => by
    rw [vq_prod, vod_vof, vod_vof, vq_vof, vq_vof]
  rwa [e] at h
theorem operate_div (va vb : Value) (ra rb : RR) (w : World) (ha : RdR w va ra) (hb : RdR w vb rb) (la : LimR ra) (lb : LimR rb) (h0 : rb.num ≠ []) :
    Calls Tryz.prog 124 #[va, vb, .func (.func 129) #[] #[]] w fun e w' => ResR w w' e (opR ra rb (fitR (qv ra / qv rb))) ∧ Ext w w' := by
  have h := operate_any 129 (enters_of Tryz.func129 (by kernel_rfl) rfl) va vb ra rb w ha hb la lb (prodV (vod ra) (rb.neg, nv (dl rb.den), nv rb.num))
    (fun hc => by
      obtain ⟨p1, p2, p3, p4, p5, p6⟩ := valid_len la (chkR2_0 hc).1
      obtain ⟨q1, q2, q3, q4, q5, q6⟩ := valid_len lb (chkR2_0 hc).2
      exact ⟨Nat.mul_ne_zero p5 (nv_ne lb.1 q3 h0), Nat.le_trans (len_prod la.1 q6 p1 q2) (by omega), Nat.le_trans (len_prod p6 lb.1 p2 q1) (by omega)⟩)
    (fun hc W v1 v2 h1 h2 => by
      obtain ⟨p1, p2, p3, p4, p5, p6⟩ := valid_len la (chkR2_0 hc).1
      obtain ⟨q1, q2, q3, q4, q5, q6⟩ := valid_len lb (chkR2_0 hc).2
      exact divR1_any v1 v2 ra.neg rb.neg ra.num (dl ra.den) rb.num (dl rb.den) W h1 h2 la.1 p6 lb.1 q6 p3 p4 q3 q4 (by omega) (by omega) (by omega) (by omega))
  have e : opR ra rb (fitR (vq (prodV (vod ra) (rb.neg, nv (dl rb.den), nv rb.num)))) = opR ra rb (fitR (qv ra / qv rb)) := opR_congr fun hc => by
    rw [vq_prod, vod_vof, vq_vof, vq_inv lb (chkR2_0 hc).2 h0, Rat.div_def]
  rwa [e] at h
set_option maxHeartbeats 1000000 in
theorem addR_any (va vb : Value) (ra rb : RR) (w : World) (ha : RdR w va ra) (hb : RdR w vb rb) (la : LimR ra) (lb : LimR rb) :
    Calls Tryz.prog 61 #[va, vb] w fun e w' => ResR w w' e (addR ra rb) ∧ Ext w w' := by
  have ho := fun W (x : Ext w W) => operate_add va vb ra rb W (ha.ext x) (hb.ext x) la lb
  obtain ⟨a1, c1, a2, c2, rfl⟩ := ha.shape
  obtain ⟨a3, c3, a4, c4, rfl⟩ := hb.shape
  obtain ⟨R, hR⟩ : ∃ R, R = addR ra rb := ⟨_, rfl⟩
  rw [← hR] at ho ⊢
  obtain ⟨s1, l1, l2⟩ := ra
  obtain ⟨s2, l3, l4⟩ := rb
  dsimp only at ho ⊢
  have HO := Lib.hid ho
  clear hR ho ha hb la lb
  have b2 := Blk.new ((w.alloc (.cells #[.bool s1, .slice a1 l1.length c1, .slice a2 l2.length c2] 33)).alloc (.cells #[.bool s2, .slice a3 l3.length c3, .slice a4 l4.length c4] 33)) #[.bool false, .slice none 0 0, .slice none 0 0] 33
  rw [World.size_alloc, World.size_alloc] at b2
  have B2 := Lib.hid b2
  have X0 := Lib.hid (show Ext w (((w.alloc (.cells #[.bool s1, .slice a1 l1.length c1, .slice a2 l2.length c2] 33)).alloc (.cells #[.bool s2, .slice a3 l3.length c3, .slice a4 l4.length c4] 33)).alloc (.cells #[.bool false, .slice none 0 0, .slice none 0 0] 33)) from (((Ext.refl w).alloc _).alloc _).alloc _)
  clear b2
  go_enter Tryz.func61, Tryz.ntmps61
  go_wp2_with fail
  refine (HO.out _ X0.out).mono ?_
  rintro e w1 ⟨⟨v1, rfl, n1⟩, hx1⟩
  obtain ⟨a5, c5, a6, c6, rfl⟩ := n1.shape
  have B1 := Lib.hid (B2.out.ext hx1); have X1 := Lib.hid (X0.out.trans hx1); have N1 := Lib.hid (n1.from X0.out)
  clear hx1 n1
  have c0 := B1.out.cell; have f0 := B1.out.free; have l0 := B1.out.lt
  obtain ⟨R1, R2⟩ := R
  dsimp only at *
  go_wp2_with fail
  refine bodyPost_ret (v := .tuple #[.agg #[.bool R1.neg, .slice a5 R1.num.length c5, .slice a6 R1.den.length c6], .int .i64 R2]) (by simp only [results, Tryz.results61]; go_simp) rfl ⟨ResR.mk (NewR.set3 N1.out B1.out (by decide) _ _ _) rfl, ?_⟩
  have := X1.out; (repeat (first | (with_reducible exact Ext.refl _) | (with_reducible assumption) | (with_reducible refine Ext.alloc ?_ _) | ((with_reducible refine Ext.setp ?_ ?_); focus (dsimp only; omega)) | (with_reducible refine Ext.drew ?_) | (with_reducible refine Ext.drewN ?_ _) | (with_reducible refine Ext.trans ?_ (by assumption))))
set_option maxHeartbeats 1000000 in
theorem subR_any (va vb : Value) (ra rb : RR) (w : World) (ha : RdR w va ra) (hb : RdR w vb rb) (la : LimR ra) (lb : LimR rb) :
    Calls Tryz.prog 62 #[va, vb] w fun e w' => ResR w w' e (subR ra rb) ∧ Ext w w' := by
  have ho := fun W (x : Ext w W) => operate_sub va vb ra rb W (ha.ext x) (hb.ext x) la lb
  obtain ⟨a1, c1, a2, c2, rfl⟩ := ha.shape
  obtain ⟨a3, c3, a4, c4, rfl⟩ := hb.shape
  obtain ⟨R, hR⟩ : ∃ R, R = subR ra rb := ⟨_, rfl⟩
  rw [← hR] at ho ⊢
  obtain ⟨s1, l1, l2⟩ := ra
  obtain ⟨s2, l3, l4⟩ := rb
  dsimp only at ho ⊢
  have HO := Lib.hid ho
  clear hR ho ha hb la lb
  have b2 := Blk.new ((w.alloc (.cells #[.bool s1, .slice a1 l1.length c1, .slice a2 l2.length c2] 33)).alloc (.cells #[.bool s2, .slice a3 l3.length c3, .slice a4 l4.length c4] 33)) #[.bool false, .slice none 0 0, .slice none 0 0] 33
  rw [World.size_alloc, World.size_alloc] at b2
  have B2 := Lib.hid b2
  have X0 := Lib.hid (show Ext w (((w.alloc (.cells #[.bool s1, .slice a1 l1.length c1, .slice a2 l2.length c2] 33)).alloc (.cells #[.bool s2, .slice a3 l3.length c3, .slice a4 l4.length c4] 33)).alloc (.cells #[.bool false, .slice none 0 0, .slice none 0 0] 33)) from (((Ext.refl w).alloc _).alloc _).alloc _)
  clear b2
  go_enter Tryz.func62, Tryz.ntmps62
  go_wp2_with fail
  refine (HO.out _ X0.out).mono ?_
  rintro e w1 ⟨⟨v1, rfl, n1⟩, hx1⟩
  obtain ⟨a5, c5, a6, c6, rfl⟩ := n1.shape
  have B1 := Lib.hid (B2.out.ext hx1); have X1 := Lib.hid (X0.out.trans hx1); have N1 := Lib.hid (n1.from X0.out)
  clear hx1 n1
  have c0 := B1.out.cell; have f0 := B1.out.free; have l0 := B1.out.lt
  obtain ⟨R1, R2⟩ := R
  dsimp only at *
  go_wp2_with fail
  refine bodyPost_ret (v := .tuple #[.agg #[.bool R1.neg, .slice a5 R1.num.length c5, .slice a6 R1.den.length c6], .int .i64 R2]) (by simp only [results, Tryz.results62]; go_simp) rfl ⟨ResR.mk (NewR.set3 N1.out B1.out (by decide) _ _ _) rfl, ?_⟩
  have := X1.out; (repeat (first | (with_reducible exact Ext.refl _) | (with_reducible assumption) | (with_reducible refine Ext.alloc ?_ _) | ((with_reducible refine Ext.setp ?_ ?_); focus (dsimp only; omega)) | (with_reducible refine Ext.drew ?_) | (with_reducible refine Ext.drewN ?_ _) | (with_reducible refine Ext.trans ?_ (by assumption))))
set_option maxHeartbeats 1000000 in
theorem mulR_any (va vb : Value) (ra rb : RR) (w : World) (ha : RdR w va ra) (hb : RdR w vb rb) (la : LimR ra) (lb : LimR rb) :
    Calls Tryz.prog 63 #[va, vb] w fun e w' => ResR w w' e (mulR ra rb) ∧ Ext w w' := by
  have ho := fun W (x : Ext w W) => operate_mul va vb ra rb W (ha.ext x) (hb.ext x) la lb
  obtain ⟨a1, c1, a2, c2, rfl⟩ := ha.shape
  obtain ⟨a3, c3, a4, c4, rfl⟩ := hb.shape
  obtain ⟨R, hR⟩ : ∃ R, R = mulR ra rb := ⟨_, rfl⟩
  rw [← hR] at ho ⊢
  obtain ⟨s1, l1, l2⟩ := ra
  obtain ⟨s2, l3, l4⟩ := rb
  dsimp only at ho ⊢
  have HO := Lib.hid ho
  clear hR ho ha hb la lb
  have b2 := Blk.new ((w.alloc (.cells #[.bool s1, .slice a1 l1.length c1, .slice a2 l2.length c2] 33)).alloc (.cells #[.bool s2, .slice a3 l3.length c3, .slice a4 l4.length c4] 33)) #[.bool false, .slice none 0 0, .slice none 0 0] 33
  rw [World.size_alloc, World.size_alloc] at b2
  have B2 := Lib.hid b2
  have X0 := Lib.hid (show Ext w (((w.alloc (.cells #[.bool s1, .slice a1 l1.length c1, .slice a2 l2.length c2] 33)).alloc (.cells #[.bool s2, .slice a3 l3.length c3, .slice a4 l4.length c4] 33)).alloc (.cells #[.bool false, .slice none 0 0, .slice none 0 0] 33)) from (((Ext.refl w).alloc _).alloc _).alloc _)
  clear b2
  go_enter Tryz.func63, Tryz.ntmps63
  go_wp2_with fail
  refine (HO.out _ X0.out).mono ?_
  rintro e w1 ⟨⟨v1, rfl, n1⟩, hx1⟩
  obtain ⟨a5, c5, a6, c6, rfl⟩ := n1.shape
  have B1 := Lib.hid (B2.out.ext hx1); have X1 := Lib.hid (X0.out.trans hx1); have N1 := Lib.hid (n1.from X0.out)
  clear hx1 n1
  have c0 := B1.out.cell; have f0 := B1.out.free; have l0 := B1.out.lt
  obtain ⟨R1, R2⟩ := R
  dsimp only at *
  go_wp2_with fail
  refine bodyPost_ret (v := .tuple #[.agg #[.bool R1.neg, .slice a5 R1.num.length c5, .slice a6 R1.den.length c6], .int .i64 R2]) (by simp only [results, Tryz.results63]; go_simp) rfl ⟨ResR.mk (NewR.set3 N1.out B1.out (by decide) _ _ _) rfl, ?_⟩
  have := X1.out; (repeat (first | (with_reducible exact Ext.refl _) | (with_reducible assumption) | (with_reducible refine Ext.alloc ?_ _) | ((with_reducible refine Ext.setp ?_ ?_); focus (dsimp only; omega)) | (with_reducible refine Ext.drew ?_) | (with_reducible refine Ext.drewN ?_ _) | (with_reducible refine Ext.trans ?_ (by assumption))))
end Go.Proofs.YtbnalhmcbolngaaGreat
namespace Go.Proofs.YtbnalhmcbolngaaGreat
set_option linter.unusedSimpArgs false
set_option linter.unusedVariables false
open Go.RowKit
set_option maxHeartbeats 4000000 in
theorem divR_any (va vb : Value) (ra rb : RR) (w : World) (ha : RdR w va ra) (hb : RdR w vb rb) (la : LimR ra) (lb : LimR rb) :
    Calls Tryz.prog 64 #[va, vb] w fun e w' => ResR w w' e (divR ra rb) ∧ Ext w w' := by
  have HCA := Lib.hid (chk_at ha la); have HCB := Lib.hid (chk_at hb lb)
  have ho := fun h0 W (x : Ext w W) => operate_div va vb ra rb W (ha.ext x) (hb.ext x) la lb h0
  obtain ⟨a1, c1, a2, c2, rfl⟩ := ha.shape
  obtain ⟨a3, c3, a4, c4, rfl⟩ := hb.shape
  obtain ⟨s1, l1, l2⟩ := ra
  obtain ⟨s2, l3, l4⟩ := rb
  dsimp only at HCA HCB ho ⊢
  clear ha hb
  have b0 := ((Blk.new w #[.bool s1, .slice a1 l1.length c1, .slice a2 l2.length c2] 33).alloc (.cells #[.bool s2, .slice a3 l3.length c3, .slice a4 l4.length c4] 33)).alloc (.cells #[.bool false, .slice none 0 0, .slice none 0 0] 33)
  have b1 := (Blk.new (w.alloc (.cells #[.bool s1, .slice a1 l1.length c1, .slice a2 l2.length c2] 33)) #[.bool s2, .slice a3 l3.length c3, .slice a4 l4.length c4] 33).alloc (.cells #[.bool false, .slice none 0 0, .slice none 0 0] 33)
  have b2 := Blk.new ((w.alloc (.cells #[.bool s1, .slice a1 l1.length c1, .slice a2 l2.length c2] 33)).alloc (.cells #[.bool s2, .slice a3 l3.length c3, .slice a4 l4.length c4] 33)) #[.bool false, .slice none 0 0, .slice none 0 0] 33
  rw [World.size_alloc] at b1
  rw [World.size_alloc, World.size_alloc] at b2
  have x0 : Ext w (((w.alloc (.cells #[.bool s1, .slice a1 l1.length c1, .slice a2 l2.length c2] 33)).alloc (.cells #[.bool s2, .slice a3 l3.length c3, .slice a4 l4.length c4] 33)).alloc (.cells #[.bool false, .slice none 0 0, .slice none 0 0] 33)) := (((Ext.refl w).alloc _).alloc _).alloc _
  have A0 := Lib.hid b0; have A1 := Lib.hid b1; have A2 := Lib.hid b2
  clear b0 b1 b2
  obtain ⟨ca, hca⟩ : ∃ ca, ca = chkR ⟨s1, l1, l2⟩ := ⟨_, rfl⟩
  obtain ⟨cb, hcb⟩ : ∃ cb, cb = chkR ⟨s2, l3, l4⟩ := ⟨_, rfl⟩
  have hdef : chkR2 ⟨s1, l1, l2⟩ ⟨s2, l3, l4⟩ = orE ca cb := by unfold chkR2; rw [hca, hcb]
  rw [← hca] at HCA
  rw [← hcb] at HCB
  have hor := fun g W h => orE_any ca cb g W h
  rw [← hdef] at hor
  obtain ⟨cc, hcc⟩ : ∃ cc, cc = chkR2 ⟨s1, l1, l2⟩ ⟨s2, l3, l4⟩ := ⟨_, rfl⟩
  rw [← hcc] at hor
  have HOR := Lib.hid hor
  obtain ⟨R, hR⟩ : ∃ R, R = divR ⟨s1, l1, l2⟩ ⟨s2, l3, l4⟩ := ⟨_, rfl⟩
  rw [← hR]
  have HR := Lib.hid hR; have HCC := Lib.hid hcc; have HO := Lib.hid ho
  clear hca hcb hdef hor hcc hR ho
  go_enter Tryz.func64, Tryz.ntmps64
  go_wp2_with fail
  have hmx : Tryz.prog.follows .mixedOrders = true := by kernel_rfl
  go_region_held3 (fun W => (Blk W w.heap.size #[.bool s1, .slice a1 l1.length c1, .slice a2 l2.length c2] 33 ∧ W.cell? ⟨w.heap.size, 0, none⟩ = some (.bool s1) ∧ W.cell? ⟨w.heap.size, 1, none⟩ = some (.slice a1 l1.length c1) ∧ W.cell? ⟨w.heap.size, 2, none⟩ = some (.slice a2 l2.length c2)) ∧ (Blk W (w.heap.size + 1) #[.bool s2, .slice a3 l3.length c3, .slice a4 l4.length c4] 33 ∧ W.cell? ⟨w.heap.size + 1, 0, none⟩ = some (.bool s2) ∧ W.cell? ⟨w.heap.size + 1, 1, none⟩ = some (.slice a3 l3.length c3) ∧ W.cell? ⟨w.heap.size + 1, 2, none⟩ = some (.slice a4 l4.length c4)))
    ((refine ⟨Blk.s3 ?_, Blk.s3 ?_⟩ <;> (repeat (first | exact A0.out | exact A1.out | exact k1 | exact k2 | exact k4 | exact k5 | exact k7 | exact k8 | refine Blk.setOther ?_ (by dsimp only; omega) _ | refine Blk.alloc ?_ _ | refine Blk.drew ?_))))
    (first | (go_at_call_of 68 (Value.slice a1 l1.length c1); refine (HCA.out _ (by (repeat (first | (with_reducible exact Ext.refl _) | (with_reducible assumption) | (with_reducible refine Ext.alloc ?_ _) | ((with_reducible refine Ext.setp ?_ ?_); focus (dsimp only; omega)) | (with_reducible refine Ext.drew ?_) | (with_reducible refine Ext.drewN ?_ _) | (with_reducible refine Ext.trans ?_ (by assumption)))))).mono ?_; rintro e W4 ⟨rfl, hx4⟩; have x4 := Ext.trans x0 (Ext.trans (by (repeat (first | (with_reducible exact Ext.refl _) | (with_reducible assumption) | (with_reducible refine Ext.alloc ?_ _) | ((with_reducible refine Ext.setp ?_ ?_); focus (dsimp only; omega)) | (with_reducible refine Ext.drew ?_) | (with_reducible refine Ext.drewN ?_ _) | (with_reducible refine Ext.trans ?_ (by assumption))))) hx4); have k1 := A0.out.ext (Ext.trans (by (repeat (first | (with_reducible exact Ext.refl _) | (with_reducible assumption) | (with_reducible refine Ext.alloc ?_ _) | ((with_reducible refine Ext.setp ?_ ?_); focus (dsimp only; omega)) | (with_reducible refine Ext.drew ?_) | (with_reducible refine Ext.drewN ?_ _) | (with_reducible refine Ext.trans ?_ (by assumption))))) hx4); have k2 := A1.out.ext (Ext.trans (by (repeat (first | (with_reducible exact Ext.refl _) | (with_reducible assumption) | (with_reducible refine Ext.alloc ?_ _) | ((with_reducible refine Ext.setp ?_ ?_); focus (dsimp only; omega)) | (with_reducible refine Ext.drew ?_) | (with_reducible refine Ext.drewN ?_ _) | (with_reducible refine Ext.trans ?_ (by assumption))))) hx4); have k3 := A2.out.ext (Ext.trans (by (repeat (first | (with_reducible exact Ext.refl _) | (with_reducible assumption) | (with_reducible refine Ext.alloc ?_ _) | ((with_reducible refine Ext.setp ?_ ?_); focus (dsimp only; omega)) | (with_reducible refine Ext.drew ?_) | (with_reducible refine Ext.drewN ?_ _) | (with_reducible refine Ext.trans ?_ (by assumption))))) hx4)) | (go_at_call_of 68 (Value.slice a3 l3.length c3); refine (HCB.out _ (by (repeat (first | (with_reducible exact Ext.refl _) | (with_reducible assumption) | (with_reducible refine Ext.alloc ?_ _) | ((with_reducible refine Ext.setp ?_ ?_); focus (dsimp only; omega)) | (with_reducible refine Ext.drew ?_) | (with_reducible refine Ext.drewN ?_ _) | (with_reducible refine Ext.trans ?_ (by assumption)))))).mono ?_; rintro e W5 ⟨rfl, hx5⟩; have x5 := x4.trans hx5; have k4 := k1.ext hx5; have k5 := k2.ext hx5; have k6 := k3.ext hx5) | (go_at_call 128; refine (HOR.out _ _ (Blk.new W5 _ _)).mono ?_; rintro e W6 ⟨rfl, hx6⟩; have x6 := (x5.alloc _).trans hx6; have k7 := (k4.alloc _).ext hx6; have k8 := (k5.alloc _).ext hx6; have k9 := (k6.alloc _).ext hx6))
  have G6 := Lib.hid k7; have H6 := Lib.hid k8; have R6 := Lib.hid k9; have X6 := Lib.hid x6
  clear k1 k2 k3 k4 k5 k6 k7 k8 k9 hx4 hx5 hx6 x4 x5 x6 A0 A1 A2 x0
  have c9 := R6.out.cell; have f9 := R6.out.free; have l9 := R6.out.lt; have g9 := G6.out.cell; have lg9 := G6.out.lt; have h9 := H6.out.cell; have lh9 := H6.out.lt
  by_cases hc : cc = 0
  · have hcb' : (cc != 0) = false := by simpa using hc
    by_cases hz : l3.length = 0
    · have hz' : ((l3.length : Int) == 0) = true := by simpa using hz
      have e : R = (zR, 14) := by rw [HR.out]; unfold divR opR; rw [if_pos (HCC.out.symm.trans hc), if_pos (List.length_eq_zero_iff.1 hz)]
      have E := Lib.hid e
      clear e hc hz
      go_wp2_with fail
      refine bodyPost_ret (v := .tuple #[.agg #[.bool false, .slice none 0 0, .slice none 0 0], .int .i64 14]) (by simp only [results, Tryz.results64]; go_simp) rfl ⟨ResR.mk (NewR.zero _ _) E.out, ?_⟩
      have := X6.out; (repeat (first | (with_reducible exact Ext.refl _) | (with_reducible assumption) | (with_reducible refine Ext.alloc ?_ _) | ((with_reducible refine Ext.setp ?_ ?_); focus (dsimp only; omega)) | (with_reducible refine Ext.drew ?_) | (with_reducible refine Ext.drewN ?_ _) | (with_reducible refine Ext.trans ?_ (by assumption))))
    · have hz' : ((l3.length : Int) == 0) = false := by simpa using hz
      have e : R = opR ⟨s1, l1, l2⟩ ⟨s2, l3, l4⟩ (fitR (qv ⟨s1, l1, l2⟩ / qv ⟨s2, l3, l4⟩)) := by
        rw [HR.out]; unfold divR; rw [if_neg (fun e => hz (by rw [show l3 = [] from e]; rfl))]
      have ho := HO.out (fun e => hz (by rw [show l3 = [] from e]; rfl))
      rw [← e] at ho
      have HO2 := Lib.hid ho
      clear e hc hz ho
      go_wp2_with fail
      refine (HO2.out _ X6.out).mono ?_
      rintro e w1 ⟨⟨v1, rfl, n1⟩, hx1⟩
      obtain ⟨a5, c5, a6, c6, rfl⟩ := n1.shape
      have B1 := Lib.hid (R6.out.ext hx1); have X1 := Lib.hid (X6.out.trans hx1); have N1 := Lib.hid (n1.from X6.out)
      clear hx1 n1 c9 f9 l9 g9 lg9 h9 lh9
      have c0 := B1.out.cell; have f0 := B1.out.free; have l0 := B1.out.lt
      obtain ⟨R1, R2⟩ := R
      dsimp only at *
      go_wp2_with fail
      refine bodyPost_ret (v := .tuple #[.agg #[.bool R1.neg, .slice a5 R1.num.length c5, .slice a6 R1.den.length c6], .int .i64 R2]) (by simp only [results, Tryz.results64]; go_simp) rfl ⟨ResR.mk (NewR.set3 N1.out B1.out (by decide) _ _ _) rfl, ?_⟩
      have := X1.out; (repeat (first | (with_reducible exact Ext.refl _) | (with_reducible assumption) | (with_reducible refine Ext.alloc ?_ _) | ((with_reducible refine Ext.setp ?_ ?_); focus (dsimp only; omega)) | (with_reducible refine Ext.drew ?_) | (with_reducible refine Ext.drewN ?_ _) | (with_reducible refine Ext.trans ?_ (by assumption))))
  · have hcb' : (cc != 0) = true := by simpa using hc
    have e : R = (zR, cc) := by rw [HR.out]; unfold divR opR; rw [if_neg (fun e => hc (HCC.out.trans e)), ← HCC.out]
    have E := Lib.hid e
    clear e hc
    go_wp2_with fail
    refine bodyPost_ret (v := .tuple #[.agg #[.bool false, .slice none 0 0, .slice none 0 0], .int .i64 cc]) (by simp only [results, Tryz.results64]; go_simp) rfl ⟨ResR.mk (NewR.zero _ _) E.out, ?_⟩
    have := X6.out; (repeat (first | (with_reducible exact Ext.refl _) | (with_reducible assumption) | (with_reducible refine Ext.alloc ?_ _) | ((with_reducible refine Ext.setp ?_ ?_); focus (dsimp only; omega)) | (with_reducible refine Ext.drew ?_) | (with_reducible refine Ext.drewN ?_ _) | (with_reducible refine Ext.trans ?_ (by assumption))))
theorem rep_neg {r : RR} (hl : LimR r) (h : chkR r = 0) : rep (- qv r) = ⟨!r.neg && decide (0 < r.num.length), r.num, r.den⟩ := by
  obtain ⟨e1, e2, e3⟩ := valid_rep hl h
  have hz := chkR_0 hl h
  have e4 : rep (- qv r) = ⟨decide (-(qv r).num < 0), (rep (qv r)).num, (rep (qv r)).den⟩ := by
    unfold rep
    rw [Rat.neg_num, Rat.neg_den, Int.natAbs_neg]
  rw [e4, e3, e1]
  congr 1
  by_cases h0 : r.num = []
  · rw [h0, (hz.2.2.2.2.2.1 h0).1]; rfl
  · have hn := nv_ne hl.1 hz.2.2.1 h0
    have hp : 0 < r.num.length := List.length_pos_iff.2 h0
    rw [decide_eq_true hp, Bool.and_true]
    unfold sg
    cases r.neg
    · simp <;> omega
    · simp <;> omega
set_option maxHeartbeats 2000000 in
theorem absR_any (va : Value) (ra : RR) (w : World) (ha : RdR w va ra) (la : LimR ra) :
    Calls Tryz.prog 60 #[va] w fun e w' => ResR w w' e (absR ra) ∧ Ext w w' := by
  have HCA := Lib.hid (chk_at ha la)
  have h0 := ha
  obtain ⟨a1, c1, a2, c2, rfl⟩ := ha.shape
  obtain ⟨vn, vd, ev, hn, hd⟩ := h0
  injection ev with ev
  simp only [Array.mk.injEq, List.cons.injEq, and_true, true_and] at ev
  obtain ⟨rfl, rfl⟩ := ev
  obtain ⟨s1, l1, l2⟩ := ra
  dsimp only at HCA hn hd ⊢
  have HN := Lib.hid hn; have HD := Lib.hid hd
  clear hn hd ha
  have b0 := (Blk.new w #[.bool s1, .slice a1 l1.length c1, .slice a2 l2.length c2] 33).alloc (.cells #[.bool false, .slice none 0 0, .slice none 0 0] 33)
  have b2 := Blk.new (w.alloc (.cells #[.bool s1, .slice a1 l1.length c1, .slice a2 l2.length c2] 33)) #[.bool false, .slice none 0 0, .slice none 0 0] 33
  rw [World.size_alloc] at b2
  have x0 : Ext w ((w.alloc (.cells #[.bool s1, .slice a1 l1.length c1, .slice a2 l2.length c2] 33)).alloc (.cells #[.bool false, .slice none 0 0, .slice none 0 0] 33)) := ((Ext.refl w).alloc _).alloc _
  have A0 := Lib.hid b0; have A2 := Lib.hid b2; have X0 := Lib.hid x0
  clear b0 b2 x0
  by_cases hc : chkR ⟨s1, l1, l2⟩ = 0
  · rw [hc] at HCA
    have hst := chkR_0 la hc
    have hlen1 : l1.length ≤ 128 := hst.1
    have hlen2 : l2.length ≤ 128 := hst.2.1
    have e : absR ⟨s1, l1, l2⟩ = (⟨false, l1, l2⟩, 0) := by
      unfold absR; rw [if_pos hc]
    have E := Lib.hid e
    have hnz : l1.length = 0 → s1 = false := fun h => (hst.2.2.2.2.2.1 (List.length_eq_zero_iff.1 h)).1
    clear e hc hst
    all_goals
      go_enter Tryz.func60, Tryz.ntmps60
      go_wp2_with fail
      refine (HCA.out _ X0.out).mono ?_
      rintro e w3 ⟨rfl, hx3⟩
      have P0 := Lib.hid (A0.out.ext hx3); have P2 := Lib.hid (A2.out.ext hx3); have X3 := Lib.hid (X0.out.trans hx3)
      clear hx3
      have c0 := P0.out.cell; have f0 := P0.out.free; have l0 := P0.out.lt
      have x3 := X3.out
      go_wp2_with fail
      have hmx : Tryz.prog.follows .mixedOrders = true := by kernel_rfl
      go_region_held3 (fun W => Blk W w.heap.size #[.bool s1, .slice a1 l1.length c1, .slice a2 l2.length c2] 33 ∧ W.cell? ⟨w.heap.size, 0, none⟩ = some (.bool s1) ∧ W.cell? ⟨w.heap.size, 1, none⟩ = some (.slice a1 l1.length c1) ∧ W.cell? ⟨w.heap.size, 2, none⟩ = some (.slice a2 l2.length c2))
        ((refine Blk.s3 ?_; (repeat (first | exact P0.out | exact k4 | exact k5 | refine Blk.setOther ?_ (by dsimp only; omega) _ | refine Blk.alloc ?_ _ | refine Blk.drew ?_))))
        (first | (go_at_call_of 123 (Value.slice a1 l1.length c1); refine (clone_any _ l1 _ (HN.out.ext (by (repeat (first | (with_reducible exact Ext.refl _) | (with_reducible assumption) | (with_reducible refine Ext.alloc ?_ _) | ((with_reducible refine Ext.setp ?_ ?_); focus (dsimp only; omega)) | (with_reducible refine Ext.drew ?_) | (with_reducible refine Ext.drewN ?_ _) | (with_reducible refine Ext.trans ?_ (by assumption)))))) (by omega)).mono ?_; rintro e w4 ⟨⟨v4, rfl, n4⟩, hx4⟩; obtain ⟨p4, q4, rfl⟩ := n4.shape; have e4 : Ext w3 w4 := Ext.trans (by (repeat (first | (with_reducible exact Ext.refl _) | (with_reducible assumption) | (with_reducible refine Ext.alloc ?_ _) | ((with_reducible refine Ext.setp ?_ ?_); focus (dsimp only; omega)) | (with_reducible refine Ext.drew ?_) | (with_reducible refine Ext.drewN ?_ _) | (with_reducible refine Ext.trans ?_ (by assumption))))) hx4; have k4 := P0.out.ext e4; have N4 := Lib.hid (n4.from (Ext.trans x3 (by (repeat (first | (with_reducible exact Ext.refl _) | (with_reducible assumption) | (with_reducible refine Ext.alloc ?_ _) | ((with_reducible refine Ext.setp ?_ ?_); focus (dsimp only; omega)) | (with_reducible refine Ext.drew ?_) | (with_reducible refine Ext.drewN ?_ _) | (with_reducible refine Ext.trans ?_ (by assumption))))))); have x4 := x3.trans e4; clear n4) | (go_at_call_of 123 (Value.slice a2 l2.length c2); refine (clone_any _ l2 _ (HD.out.ext (by (repeat (first | (with_reducible exact Ext.refl _) | (with_reducible assumption) | (with_reducible refine Ext.alloc ?_ _) | ((with_reducible refine Ext.setp ?_ ?_); focus (dsimp only; omega)) | (with_reducible refine Ext.drew ?_) | (with_reducible refine Ext.drewN ?_ _) | (with_reducible refine Ext.trans ?_ (by assumption)))))) (by omega)).mono ?_; rintro e w5 ⟨⟨v5, rfl, n5⟩, hx5⟩; obtain ⟨p5, q5, rfl⟩ := n5.shape; have k5 := k4.ext hx5; have x5 := x4.trans hx5; have N5 := Lib.hid (n5.from x4); have M4 := Lib.hid (N4.out.ext hx5); have R5 := Lib.hid ((P2.out.ext e4).ext hx5); have r5 := R5.out.cell; have fr5 := R5.out.free; have lr5 := R5.out.lt; clear n5))
      all_goals
        go_wp2_with fail
        refine bodyPost_ret (v := .tuple #[.agg #[.bool (false), .slice p4 l1.length q4, .slice p5 l2.length q5], .int .i64 0]) (by simp only [results, Tryz.results60]; go_simp; first | done | (cases s1 <;> simp_all)) rfl ⟨?_, ?_⟩
        · rw [E.out]
          exact ⟨_, rfl, _, _, rfl, OwB.set3 M4.out R5.out (by decide) _ _ _, OwB.set3 N5.out R5.out (by decide) _ _ _⟩
        · (repeat (first | (with_reducible exact Ext.refl _) | (with_reducible assumption) | (with_reducible refine Ext.alloc ?_ _) | ((with_reducible refine Ext.setp ?_ ?_); focus (dsimp only; omega)) | (with_reducible refine Ext.drew ?_) | (with_reducible refine Ext.drewN ?_ _) | (with_reducible refine Ext.trans ?_ (by assumption))))
  · have e : absR ⟨s1, l1, l2⟩ = (zR, chkR ⟨s1, l1, l2⟩) := by unfold absR; rw [if_neg hc]
    obtain ⟨cc, hcc⟩ : ∃ cc, cc = chkR ⟨s1, l1, l2⟩ := ⟨_, rfl⟩
    rw [← hcc] at HCA hc e
    have E := Lib.hid e
    have hcb' : (cc != 0) = true := by simpa using hc
    clear e hc hcc
    go_enter Tryz.func60, Tryz.ntmps60
    go_wp2_with fail
    refine (HCA.out _ X0.out).mono ?_
    rintro e w3 ⟨rfl, hx3⟩
    have P2 := A2.out.ext hx3; have X3 := Lib.hid (X0.out.trans hx3)
    clear hx3
    have c0 := P2.cell; have f0 := P2.free; have l0 := P2.lt
    go_wp2_with fail
    refine bodyPost_ret (v := .tuple #[.agg #[.bool false, .slice none 0 0, .slice none 0 0], .int .i64 cc]) (by simp only [results, Tryz.results60]; go_simp) rfl ⟨ResR.mk (NewR.zero _ _) E.out, ?_⟩
    have := X3.out; (repeat (first | (with_reducible exact Ext.refl _) | (with_reducible assumption) | (with_reducible refine Ext.alloc ?_ _) | ((with_reducible refine Ext.setp ?_ ?_); focus (dsimp only; omega)) | (with_reducible refine Ext.drew ?_) | (with_reducible refine Ext.drewN ?_ _) | (with_reducible refine Ext.trans ?_ (by assumption))))
end Go.Proofs.YtbnalhmcbolngaaGreat
namespace Go.Proofs.YtbnalhmcbolngaaGreat
set_option linter.unusedSimpArgs false
set_option linter.unusedVariables false
open Go.RowKit
set_option maxHeartbeats 2000000 in
theorem negR_any (va : Value) (ra : RR) (w : World) (ha : RdR w va ra) (la : LimR ra) :
    Calls Tryz.prog 59 #[va] w fun e w' => ResR w w' e (negR ra) ∧ Ext w w' := by
  have HCA := Lib.hid (chk_at ha la)
  have h0 := ha
  obtain ⟨a1, c1, a2, c2, rfl⟩ := ha.shape
  obtain ⟨vn, vd, ev, hn, hd⟩ := h0
  injection ev with ev
  simp only [Array.mk.injEq, List.cons.injEq, and_true, true_and] at ev
  obtain ⟨rfl, rfl⟩ := ev
  obtain ⟨s1, l1, l2⟩ := ra
  dsimp only at HCA hn hd ⊢
  have HN := Lib.hid hn; have HD := Lib.hid hd
  clear hn hd ha
  have b0 := (Blk.new w #[.bool s1, .slice a1 l1.length c1, .slice a2 l2.length c2] 33).alloc (.cells #[.bool false, .slice none 0 0, .slice none 0 0] 33)
  have b2 := Blk.new (w.alloc (.cells #[.bool s1, .slice a1 l1.length c1, .slice a2 l2.length c2] 33)) #[.bool false, .slice none 0 0, .slice none 0 0] 33
  rw [World.size_alloc] at b2
  have x0 : Ext w ((w.alloc (.cells #[.bool s1, .slice a1 l1.length c1, .slice a2 l2.length c2] 33)).alloc (.cells #[.bool false, .slice none 0 0, .slice none 0 0] 33)) := ((Ext.refl w).alloc _).alloc _
  have A0 := Lib.hid b0; have A2 := Lib.hid b2; have X0 := Lib.hid x0
  clear b0 b2 x0
  by_cases hc : chkR ⟨s1, l1, l2⟩ = 0
  · rw [hc] at HCA
    have hst := chkR_0 la hc
    have hlen1 : l1.length ≤ 128 := hst.1
    have hlen2 : l2.length ≤ 128 := hst.2.1
    have e : negR ⟨s1, l1, l2⟩ = (⟨!s1 && decide (0 < l1.length), l1, l2⟩, 0) := by
      unfold negR; rw [if_pos hc, rep_neg la hc]
    have E := Lib.hid e
    have hnz : l1.length = 0 → s1 = false := fun h => (hst.2.2.2.2.2.1 (List.length_eq_zero_iff.1 h)).1
    clear e hc hst
    cases s1
    · go_enter Tryz.func59, Tryz.ntmps59
      go_wp2_with fail
      refine (HCA.out _ X0.out).mono ?_
      rintro e w3 ⟨rfl, hx3⟩
      have P0 := Lib.hid (A0.out.ext hx3); have P2 := Lib.hid (A2.out.ext hx3); have X3 := Lib.hid (X0.out.trans hx3)
      clear hx3
      have c0 := P0.out.cell; have f0 := P0.out.free; have l0 := P0.out.lt
      have x3 := X3.out
      go_wp2_with fail
      have hmx : Tryz.prog.follows .mixedOrders = true := by kernel_rfl
      go_region_held3 (fun W => Blk W w.heap.size #[.bool false, .slice a1 l1.length c1, .slice a2 l2.length c2] 33 ∧ W.cell? ⟨w.heap.size, 0, none⟩ = some (.bool false) ∧ W.cell? ⟨w.heap.size, 1, none⟩ = some (.slice a1 l1.length c1) ∧ W.cell? ⟨w.heap.size, 2, none⟩ = some (.slice a2 l2.length c2))
        ((refine Blk.s3 ?_; (repeat (first | exact P0.out | exact k4 | exact k5 | refine Blk.setOther ?_ (by dsimp only; omega) _ | refine Blk.alloc ?_ _ | refine Blk.drew ?_))))
        (first | (go_at_call_of 123 (Value.slice a1 l1.length c1); refine (clone_any _ l1 _ (HN.out.ext (by (repeat (first | (with_reducible exact Ext.refl _) | (with_reducible assumption) | (with_reducible refine Ext.alloc ?_ _) | ((with_reducible refine Ext.setp ?_ ?_); focus (dsimp only; omega)) | (with_reducible refine Ext.drew ?_) | (with_reducible refine Ext.drewN ?_ _) | (with_reducible refine Ext.trans ?_ (by assumption)))))) (by omega)).mono ?_; rintro e w4 ⟨⟨v4, rfl, n4⟩, hx4⟩; obtain ⟨p4, q4, rfl⟩ := n4.shape; have e4 : Ext w3 w4 := Ext.trans (by (repeat (first | (with_reducible exact Ext.refl _) | (with_reducible assumption) | (with_reducible refine Ext.alloc ?_ _) | ((with_reducible refine Ext.setp ?_ ?_); focus (dsimp only; omega)) | (with_reducible refine Ext.drew ?_) | (with_reducible refine Ext.drewN ?_ _) | (with_reducible refine Ext.trans ?_ (by assumption))))) hx4; have k4 := P0.out.ext e4; have N4 := Lib.hid (n4.from (Ext.trans x3 (by (repeat (first | (with_reducible exact Ext.refl _) | (with_reducible assumption) | (with_reducible refine Ext.alloc ?_ _) | ((with_reducible refine Ext.setp ?_ ?_); focus (dsimp only; omega)) | (with_reducible refine Ext.drew ?_) | (with_reducible refine Ext.drewN ?_ _) | (with_reducible refine Ext.trans ?_ (by assumption))))))); have x4 := x3.trans e4; clear n4) | (go_at_call_of 123 (Value.slice a2 l2.length c2); refine (clone_any _ l2 _ (HD.out.ext (by (repeat (first | (with_reducible exact Ext.refl _) | (with_reducible assumption) | (with_reducible refine Ext.alloc ?_ _) | ((with_reducible refine Ext.setp ?_ ?_); focus (dsimp only; omega)) | (with_reducible refine Ext.drew ?_) | (with_reducible refine Ext.drewN ?_ _) | (with_reducible refine Ext.trans ?_ (by assumption)))))) (by omega)).mono ?_; rintro e w5 ⟨⟨v5, rfl, n5⟩, hx5⟩; obtain ⟨p5, q5, rfl⟩ := n5.shape; have k5 := k4.ext hx5; have x5 := x4.trans hx5; have N5 := Lib.hid (n5.from x4); have M4 := Lib.hid (N4.out.ext hx5); have R5 := Lib.hid ((P2.out.ext e4).ext hx5); have r5 := R5.out.cell; have fr5 := R5.out.free; have lr5 := R5.out.lt; clear n5))
      all_goals
        go_wp2_with fail
        refine bodyPost_ret (v := .tuple #[.agg #[.bool (!false && decide (0 < l1.length)), .slice p4 l1.length q4, .slice p5 l2.length q5], .int .i64 0]) (by simp only [results, Tryz.results59]; go_simp; first | done | (simp_all)) rfl ⟨?_, ?_⟩
        · rw [E.out]
          exact ⟨_, rfl, _, _, rfl, OwB.set3 M4.out R5.out (by decide) _ _ _, OwB.set3 N5.out R5.out (by decide) _ _ _⟩
        · (repeat (first | (with_reducible exact Ext.refl _) | (with_reducible assumption) | (with_reducible refine Ext.alloc ?_ _) | ((with_reducible refine Ext.setp ?_ ?_); focus (dsimp only; omega)) | (with_reducible refine Ext.drew ?_) | (with_reducible refine Ext.drewN ?_ _) | (with_reducible refine Ext.trans ?_ (by assumption))))
    · go_enter Tryz.func59, Tryz.ntmps59
      go_wp2_with fail
      refine (HCA.out _ X0.out).mono ?_
      rintro e w3 ⟨rfl, hx3⟩
      have P0 := Lib.hid (A0.out.ext hx3); have P2 := Lib.hid (A2.out.ext hx3); have X3 := Lib.hid (X0.out.trans hx3)
      clear hx3
      have c0 := P0.out.cell; have f0 := P0.out.free; have l0 := P0.out.lt
      have x3 := X3.out
      go_wp2_with fail
      have hmx : Tryz.prog.follows .mixedOrders = true := by kernel_rfl
      refine wp_region_held_drew (S := (fun W => Blk W w.heap.size #[.bool true, .slice a1 l1.length c1, .slice a2 l2.length c2] 33 ∧ W.cell? ⟨w.heap.size, 0, none⟩ = some (.bool true) ∧ W.cell? ⟨w.heap.size, 1, none⟩ = some (.slice a1 l1.length c1) ∧ W.cell? ⟨w.heap.size, 2, none⟩ = some (.slice a2 l2.length c2))) (by kernel_rfl) ?_ (fun hHeld => ?_)
      · (try dsimp only)
        (refine Blk.s3 ?_; (repeat (first | exact P0.out | exact k4 | exact k5 | refine Blk.setOther ?_ (by dsimp only; omega) _ | refine Blk.alloc ?_ _ | refine Blk.drew ?_)))
      refine wpAnyH_take (i := 0) (v := ?_) rfl (by kernel_rfl) (by kernel_rfl) (by kernel_rfl) (fun _ _ _ h => h) (Or.inl ⟨by rfl, ?_⟩) (by assumption) ?_
      rotate_left
      · (intro w hSw; (try dsimp only at hSw); go_simp; first | done | with_reducible rfl)
      (try simp only [Act.put, List.setIfInBounds_toArray, List.set_cons_zero, List.set_cons_succ])
      refine wpAnyH_take (i := 1) (v := ?_) rfl (by kernel_rfl) (by kernel_rfl) (by kernel_rfl) (fun _ _ _ h => h) (Or.inl ⟨by rfl, ?_⟩) (by assumption) ?_
      rotate_left
      · (intro w hSw; (try dsimp only at hSw); go_simp; first | done | with_reducible rfl)
      (try simp only [Act.put, List.setIfInBounds_toArray, List.set_cons_zero, List.set_cons_succ])
      refine wpAnyH_take (i := 2) (v := ?_) rfl (by kernel_rfl) (by kernel_rfl) (by kernel_rfl) (fun _ _ _ h => h) (Or.inl ⟨by rfl, ?_⟩) (by assumption) ?_
      rotate_left
      · (intro w hSw; (try dsimp only at hSw); go_simp; first | done | with_reducible rfl)
      (try simp only [Act.put, List.setIfInBounds_toArray, List.set_cons_zero, List.set_cons_succ])
      refine wpAnyH_take (i := 3) (v := ?_) rfl (by kernel_rfl) (by kernel_rfl) (by kernel_rfl) (fun _ _ _ h => h) (Or.inl ⟨by rfl, ?_⟩) (by assumption) ?_
      rotate_left
      · (intro w hSw; (try dsimp only at hSw); go_simp; first | done | with_reducible rfl)
      (try simp only [Act.put, List.setIfInBounds_toArray, List.set_cons_zero, List.set_cons_succ])
      refine wpAnyH_take (i := 4) (v := undef) rfl (by kernel_rfl) (by kernel_rfl) (by kernel_rfl) (fun _ _ _ h => h) (Or.inr ⟨by rfl, rfl⟩) (by assumption) ?_
      (try simp only [Act.put, List.setIfInBounds_toArray, List.set_cons_zero, List.set_cons_succ])
      refine wpAnyH_take (i := 5) (v := undef) rfl (by kernel_rfl) (by kernel_rfl) (by kernel_rfl) (fun _ _ _ h => h) (Or.inr ⟨by rfl, rfl⟩) (by assumption) ?_
      (try simp only [Act.put, List.setIfInBounds_toArray, List.set_cons_zero, List.set_cons_succ])
      refine wpAnyH_take (i := 6) (v := undef) rfl (by kernel_rfl) (by kernel_rfl) (by kernel_rfl) (fun _ _ _ h => h) (Or.inr ⟨by rfl, rfl⟩) (by assumption) ?_
      (try simp only [Act.put, List.setIfInBounds_toArray, List.set_cons_zero, List.set_cons_succ])
      refine wpAnyH_take (i := 7) (v := undef) rfl (by kernel_rfl) (by kernel_rfl) (by kernel_rfl) (fun _ _ _ h => h) (Or.inr ⟨by rfl, rfl⟩) (by assumption) ?_
      (try simp only [Act.put, List.setIfInBounds_toArray, List.set_cons_zero, List.set_cons_succ])
      refine wpAnyH_take (i := 8) (v := ?_) rfl (by kernel_rfl) (by kernel_rfl) (by kernel_rfl) (fun _ _ _ h => h) (Or.inl ⟨by rfl, ?_⟩) (by assumption) ?_
      rotate_left
      · (intro w hSw; (try dsimp only at hSw); go_simp; first | done | with_reducible rfl)
      (try simp only [Act.put, List.setIfInBounds_toArray, List.set_cons_zero, List.set_cons_succ])
      refine wpAnyH_take (i := 9) (v := ?_) rfl (by kernel_rfl) (by kernel_rfl) (by kernel_rfl) (fun _ _ _ h => h) (Or.inl ⟨by rfl, ?_⟩) (by assumption) ?_
      rotate_left
      · (intro w hSw; (try dsimp only at hSw); go_simp; first | done | with_reducible rfl)
      (try simp only [Act.put, List.setIfInBounds_toArray, List.set_cons_zero, List.set_cons_succ])
      refine wpAnyH_take (i := 10) (v := ?_) rfl (by kernel_rfl) (by kernel_rfl) (by kernel_rfl) (fun _ _ _ h => h) (Or.inl ⟨by rfl, ?_⟩) (by assumption) ?_
      rotate_left
      · (intro w hSw; (try dsimp only at hSw); go_simp; first | done | with_reducible rfl)
      (try simp only [Act.put, List.setIfInBounds_toArray, List.set_cons_zero, List.set_cons_succ])
      refine wpAnyH_take (i := 12) (v := ?_) rfl (by kernel_rfl) (by kernel_rfl) (by kernel_rfl) (fun _ _ _ h => h) (Or.inl ⟨by rfl, ?_⟩) (by assumption) ?_
      rotate_left
      · (intro w hSw; (try dsimp only at hSw); go_simp; first | done | with_reducible rfl)
      (try simp only [Act.put, List.setIfInBounds_toArray, List.set_cons_zero, List.set_cons_succ])
      refine wpAnyH_take (i := 13) (v := ?_) rfl (by kernel_rfl) (by kernel_rfl) (by kernel_rfl) (fun _ _ _ h => h) (Or.inl ⟨by rfl, ?_⟩) (by assumption) ?_
      rotate_left
      · (intro w hSw; (try dsimp only at hSw); go_simp; first | done | with_reducible rfl)
      (try simp only [Act.put, List.setIfInBounds_toArray, List.set_cons_zero, List.set_cons_succ])
      refine wpAnyH_ready (rs := [11]) (by kernel_rfl) (by simp) ?_
      refine AllReadyH.cons rfl (fun K hK => ?_) ?_
      rotate_left
      · exact AllReadyH.nil
      go_simp
      go_at_call_of 123 (Value.slice a1 l1.length c1); refine (clone_any _ l1 _ (HN.out.ext (by (repeat (first | (with_reducible exact Ext.refl _) | (with_reducible assumption) | (with_reducible refine Ext.alloc ?_ _) | ((with_reducible refine Ext.setp ?_ ?_); focus (dsimp only; omega)) | (with_reducible refine Ext.drew ?_) | (with_reducible refine Ext.drewN ?_ _) | (with_reducible refine Ext.trans ?_ (by assumption)))))) (by omega)).mono ?_; rintro e w4 ⟨⟨v4, rfl, n4⟩, hx4⟩; obtain ⟨p4, q4, rfl⟩ := n4.shape; have e4 : Ext w3 w4 := Ext.trans (by (repeat (first | (with_reducible exact Ext.refl _) | (with_reducible assumption) | (with_reducible refine Ext.alloc ?_ _) | ((with_reducible refine Ext.setp ?_ ?_); focus (dsimp only; omega)) | (with_reducible refine Ext.drew ?_) | (with_reducible refine Ext.drewN ?_ _) | (with_reducible refine Ext.trans ?_ (by assumption))))) hx4; have k4 := P0.out.ext e4; have N4 := Lib.hid (n4.from (Ext.trans x3 (by (repeat (first | (with_reducible exact Ext.refl _) | (with_reducible assumption) | (with_reducible refine Ext.alloc ?_ _) | ((with_reducible refine Ext.setp ?_ ?_); focus (dsimp only; omega)) | (with_reducible refine Ext.drew ?_) | (with_reducible refine Ext.drewN ?_ _) | (with_reducible refine Ext.trans ?_ (by assumption))))))); have x4 := x3.trans e4; clear n4
      first | refine hK.out _ _ ?_ (fun hHeld => ?_) | (go_wp2_with fail; refine hK.out _ _ ?_ (fun hHeld => ?_))
      · (try dsimp only)
        (refine Blk.s3 ?_; (repeat (first | exact P0.out | exact k4 | exact k5 | refine Blk.setOther ?_ (by dsimp only; omega) _ | refine Blk.alloc ?_ _ | refine Blk.drew ?_)))
      clear hK K
      (try simp only [Act.put, List.setIfInBounds_toArray, List.set_cons_zero, List.set_cons_succ])
      refine wpAnyH_ready (rs := [14]) (by kernel_rfl) (by simp) ?_
      refine AllReadyH.cons rfl (fun K hK => ?_) ?_
      rotate_left
      · exact AllReadyH.nil
      go_simp
      go_at_call_of 123 (Value.slice a2 l2.length c2); refine (clone_any _ l2 _ (HD.out.ext (by (repeat (first | (with_reducible exact Ext.refl _) | (with_reducible assumption) | (with_reducible refine Ext.alloc ?_ _) | ((with_reducible refine Ext.setp ?_ ?_); focus (dsimp only; omega)) | (with_reducible refine Ext.drew ?_) | (with_reducible refine Ext.drewN ?_ _) | (with_reducible refine Ext.trans ?_ (by assumption)))))) (by omega)).mono ?_; rintro e w5 ⟨⟨v5, rfl, n5⟩, hx5⟩; obtain ⟨p5, q5, rfl⟩ := n5.shape; have k5 := k4.ext hx5; have x5 := x4.trans hx5; have N5 := Lib.hid (n5.from x4); have M4 := Lib.hid (N4.out.ext hx5); have R5 := Lib.hid ((P2.out.ext e4).ext hx5); have r5 := R5.out.cell; have fr5 := R5.out.free; have lr5 := R5.out.lt; clear n5
      first | refine hK.out _ _ ?_ (fun hHeld => ?_) | (go_wp2_with fail; refine hK.out _ _ ?_ (fun hHeld => ?_))
      · (try dsimp only)
        (refine Blk.s3 ?_; (repeat (first | exact P0.out | exact k4 | exact k5 | refine Blk.setOther ?_ (by dsimp only; omega) _ | refine Blk.alloc ?_ _ | refine Blk.drew ?_)))
      clear hK K
      (try simp only [Act.put, List.setIfInBounds_toArray, List.set_cons_zero, List.set_cons_succ])
      refine wpAnyH_take (i := 15) (v := ?_) rfl (by kernel_rfl) (by kernel_rfl) (by kernel_rfl) (fun _ _ _ h => h) (Or.inl ⟨by rfl, ?_⟩) (by assumption) ?_
      rotate_left
      · (intro w hSw; (try dsimp only at hSw); go_simp; first | done | with_reducible rfl)
      (try simp only [Act.put, List.setIfInBounds_toArray, List.set_cons_zero, List.set_cons_succ])
      refine wpAnyH_ready (rs := [16]) (by kernel_rfl) (by simp) ?_
      refine AllReadyH.cons rfl (fun K hK => ?_) ?_
      rotate_left
      · exact AllReadyH.nil
      go_simp
      first | refine hK.out _ _ ?_ (fun hHeld => ?_) | (go_wp2_with fail; refine hK.out _ _ ?_ (fun hHeld => ?_))
      · (try dsimp only)
        (refine Blk.s3 ?_; (repeat (first | exact P0.out | exact k4 | exact k5 | refine Blk.setOther ?_ (by dsimp only; omega) _ | refine Blk.alloc ?_ _ | refine Blk.drew ?_)))
      clear hK K
      (try simp only [Act.put, List.setIfInBounds_toArray, List.set_cons_zero, List.set_cons_succ])
      refine wpAnyH_ready (rs := [17]) (by kernel_rfl) (by simp) ?_
      refine AllReadyH.cons rfl (fun K hK => ?_) ?_
      rotate_left
      · exact AllReadyH.nil
      go_simp
      first | refine hK.out _ _ ?_ (fun hHeld => ?_) | (go_wp2_with fail; refine hK.out _ _ ?_ (fun hHeld => ?_))
      · (try dsimp only)
        (refine Blk.s3 ?_; (repeat (first | exact P0.out | exact k4 | exact k5 | refine Blk.setOther ?_ (by dsimp only; omega) _ | refine Blk.alloc ?_ _ | refine Blk.drew ?_)))
      clear hK K
      (try simp only [Act.put, List.setIfInBounds_toArray, List.set_cons_zero, List.set_cons_succ])
      refine wpAnyH_done (by kernel_rfl) ?_ _
      go_wp2_with fail
      refine bodyPost_ret (v := .tuple #[.agg #[.bool (!true && decide (0 < l1.length)), .slice p4 l1.length q4, .slice p5 l2.length q5], .int .i64 0]) (by simp only [results, Tryz.results59]; go_simp; first | done | (simp_all)) rfl ⟨?_, ?_⟩
      · rw [E.out]
        exact ⟨_, rfl, _, _, rfl, OwB.set3 M4.out R5.out (by decide) _ _ _, OwB.set3 N5.out R5.out (by decide) _ _ _⟩
      · (repeat (first | (with_reducible exact Ext.refl _) | (with_reducible assumption) | (with_reducible refine Ext.alloc ?_ _) | ((with_reducible refine Ext.setp ?_ ?_); focus (dsimp only; omega)) | (with_reducible refine Ext.drew ?_) | (with_reducible refine Ext.drewN ?_ _) | (with_reducible refine Ext.trans ?_ (by assumption))))
  · have e : negR ⟨s1, l1, l2⟩ = (zR, chkR ⟨s1, l1, l2⟩) := by unfold negR; rw [if_neg hc]
    obtain ⟨cc, hcc⟩ : ∃ cc, cc = chkR ⟨s1, l1, l2⟩ := ⟨_, rfl⟩
    rw [← hcc] at HCA hc e
    have E := Lib.hid e
    have hcb' : (cc != 0) = true := by simpa using hc
    clear e hc hcc
    go_enter Tryz.func59, Tryz.ntmps59
    go_wp2_with fail
    refine (HCA.out _ X0.out).mono ?_
    rintro e w3 ⟨rfl, hx3⟩
    have P2 := A2.out.ext hx3; have X3 := Lib.hid (X0.out.trans hx3)
    clear hx3
    have c0 := P2.cell; have f0 := P2.free; have l0 := P2.lt
    go_wp2_with fail
    refine bodyPost_ret (v := .tuple #[.agg #[.bool false, .slice none 0 0, .slice none 0 0], .int .i64 cc]) (by simp only [results, Tryz.results59]; go_simp) rfl ⟨ResR.mk (NewR.zero _ _) E.out, ?_⟩
    have := X3.out; (repeat (first | (with_reducible exact Ext.refl _) | (with_reducible assumption) | (with_reducible refine Ext.alloc ?_ _) | ((with_reducible refine Ext.setp ?_ ?_); focus (dsimp only; omega)) | (with_reducible refine Ext.drew ?_) | (with_reducible refine Ext.drewN ?_ _) | (with_reducible refine Ext.trans ?_ (by assumption))))
end Go.Proofs.YtbnalhmcbolngaaGreat
namespace Go.Proofs.YtbnalhmcbolngaaGreat
set_option linter.unusedSimpArgs false
set_option linter.unusedVariables false
open Go.RowKit
def textR (r : RR) : ByteArray × Int := if chkR r = 0 then (if r.den = [] then (if r.neg = true then ⟨#[45]⟩ ++ decT (nv r.num) else decT (nv r.num)) else (if r.neg = true then ⟨#[45]⟩ ++ decT (nv r.num) else decT (nv r.num)) ++ (⟨#[47]⟩ ++ decT (nv r.den)), 0) else (⟨#[]⟩, chkR r)
theorem text_at {w : World} {v : Value} {l : List Int} (h : RdI .u32 w v l) (hl : Lim l) (hs : l.length ≤ 512) (hz : NoZ l) : ∀ W, Ext w W → Calls Tryz.prog 134 #[v] W fun e w' => e = .returned (.tuple #[.string (decT (nv l)), .int .i64 0]) ∧ Ext W w' := fun W x => by
  have := text_any v l W (h.ext x) hl
  unfold textS at this
  rwa [if_pos (chkE_can hs hz)] at this
set_option maxHeartbeats 2000000 in
theorem textR_any (va : Value) (ra : RR) (w : World) (ha : RdR w va ra) (la : LimR ra) :
    Calls Tryz.prog 67 #[va] w fun e w' => e = .returned (.tuple #[.string (textR ra).1, .int .i64 (textR ra).2]) ∧ Ext w w' := by
  have HCA := Lib.hid (chk_at ha la)
  have h0 := ha
  obtain ⟨a1, c1, a2, c2, rfl⟩ := ha.shape
  obtain ⟨vn, vd, ev, hn, hd⟩ := h0
  injection ev with ev
  simp only [Array.mk.injEq, List.cons.injEq, and_true, true_and] at ev
  obtain ⟨rfl, rfl⟩ := ev
  obtain ⟨s1, l1, l2⟩ := ra
  dsimp only at HCA hn hd ⊢
  have A0 := Lib.hid (Blk.new w #[.bool s1, .slice a1 l1.length c1, .slice a2 l2.length c2] 33)
  have X0 := Lib.hid ((Ext.refl w).alloc (.cells #[.bool s1, .slice a1 l1.length c1, .slice a2 l2.length c2] 33))
  by_cases hc : chkR ⟨s1, l1, l2⟩ = 0
  · rw [hc] at HCA
    have hst := chkR_0 la hc
    have TN := Lib.hid (text_at hn la.1 (show l1.length ≤ 512 by have : l1.length ≤ 128 := hst.1; omega) hst.2.2.1)
    have TD := Lib.hid (text_at hd la.2 (show l2.length ≤ 512 by have : l2.length ≤ 128 := hst.2.1; omega) hst.2.2.2.1)
    obtain ⟨SN, hSN⟩ : ∃ SN, SN = decT (nv l1) := ⟨_, rfl⟩
    obtain ⟨SD, hSD⟩ : ∃ SD, SD = decT (nv l2) := ⟨_, rfl⟩
    have bN : SN.size ≤ 4097 := by
      rw [hSN]
      have h1 := decT_size (nv l1)
      have h2 : blen (nv l1) ≤ 32 * l1.length := blen_le.2 (by rw [← pow_two]; exact nv_lt la.1)
      have h3 : l1.length ≤ 128 := hst.1
      omega
    have bD : SD.size ≤ 4097 := by
      rw [hSD]
      have h1 := decT_size (nv l2)
      have h2 : blen (nv l2) ≤ 32 * l2.length := blen_le.2 (by rw [← pow_two]; exact nv_lt la.2)
      have h3 : l2.length ≤ 128 := hst.2.1
      omega
    have bN2 : ((⟨#[45]⟩ : ByteArray) ++ SN).size ≤ 4098 := by rw [ByteArray.size_append]; show 1 + SN.size ≤ 4098; omega
    have bD2 : ((⟨#[47]⟩ : ByteArray) ++ SD).size ≤ 4098 := by rw [ByteArray.size_append]; show 1 + SD.size ≤ 4098; omega
    have b1 : (⟨#[45]⟩ : ByteArray).size = 1 := rfl
    have b2 : (⟨#[47]⟩ : ByteArray).size = 1 := rfl
    have e : textR ⟨s1, l1, l2⟩ = (if l2 = [] then (if s1 = true then ⟨#[45]⟩ ++ SN else SN) else (if s1 = true then ⟨#[45]⟩ ++ SN else SN) ++ (⟨#[47]⟩ ++ SD), 0) := by unfold textR; rw [if_pos hc, hSN, hSD]
    rw [← hSN] at TN
    rw [← hSD] at TD
    have E := Lib.hid e
    clear e hc hst hSN hSD hn hd ha
    cases s1
    all_goals
      go_enter Tryz.func67, Tryz.ntmps67
      go_wp2_with fail
      refine (HCA.out _ X0.out).mono ?_
      rintro e w3 ⟨rfl, hx3⟩
      have P0 := Lib.hid (A0.out.ext hx3); have X3 := Lib.hid (X0.out.trans hx3)
      clear hx3
      have c0 := P0.out.cell; have f0 := P0.out.free; have l0 := P0.out.lt
      go_wp2_with fail
      refine (TN.out _ X3.out).mono ?_
      rintro e w4 ⟨rfl, hx4⟩
      have P4 := Lib.hid (P0.out.ext hx4); have X4 := Lib.hid (X3.out.trans hx4)
      clear hx4 c0 f0 l0
      have c0 := P4.out.cell; have f0 := P4.out.free; have l0 := P4.out.lt
      by_cases hz : l2.length = 0
      · have q1 : ¬ (0 : Int) < (l2.length : Int) := by omega
        have HZ := Lib.hid (List.length_eq_zero_iff.1 hz)
        clear hz
        go_wp2_with fail
        go_ret2
        exact ⟨by rw [E.out, if_pos HZ.out]; rfl, X4.out⟩
      · have q1 : (0 : Int) < (l2.length : Int) := by omega
        have HZ := Lib.hid (fun e : l2 = [] => hz (by rw [e]; rfl))
        clear hz
        go_wp2_with fail
        refine (TD.out _ X4.out).mono ?_
        rintro e w5 ⟨rfl, hx5⟩
        have X5 := Lib.hid (X4.out.trans hx5)
        clear hx5
        go_wp2_with fail
        go_ret2
        exact ⟨by rw [E.out, if_neg HZ.out]; rfl, X5.out⟩
  · have e : textR ⟨s1, l1, l2⟩ = (⟨#[]⟩, chkR ⟨s1, l1, l2⟩) := by unfold textR; rw [if_neg hc]
    obtain ⟨cc, hcc⟩ : ∃ cc, cc = chkR ⟨s1, l1, l2⟩ := ⟨_, rfl⟩
    rw [← hcc] at HCA hc e
    have E := Lib.hid e
    have hcb' : (cc != 0) = true := by simpa using hc
    clear e hc hcc
    go_enter Tryz.func67, Tryz.ntmps67
    go_wp2_with fail
    refine (HCA.out _ X0.out).mono ?_
    rintro e w3 ⟨rfl, hx3⟩
    have X3 := Lib.hid (X0.out.trans hx3)
    clear hx3
    go_wp2_with fail
    go_ret2
    exact ⟨by rw [E.out]; rfl, X3.out⟩
end Go.Proofs.YtbnalhmcbolngaaGreat
namespace Go.Proofs.YtbnalhmcbolngaaGreat
set_option linter.unusedSimpArgs false
set_option linter.unusedVariables false
open Go.RowKit
def flA (b : Bool) (n d : Nat) : Nat := if b = true ∧ 0 < n % d then n / d + 1 else n / d
theorem floor_flA {r : RR} (hl : LimR r) (h : chkR r = 0) : (qv r).floor = sg r.neg (flA r.neg (nv r.num) (dnv r.den)) := by
  obtain ⟨e1, e2, _⟩ := valid_rep hl h
  rw [Rat.floor_def, e1, e2]
  have hd : 0 < dnv r.den := by have := vof_den hl h; exact Nat.pos_of_ne_zero this
  unfold flA sg
  cases r.neg
  · simp
  · simp only [if_true, true_and]
    generalize nv r.num = n
    generalize dnv r.den = d at *
    have h1 := Nat.div_add_mod n d
    have h2 := Nat.mod_lt n hd
    split
    · rename_i hp
      obtain ⟨q, hq⟩ : ∃ q, q = n / d := ⟨_, rfl⟩
      obtain ⟨m, hm⟩ : ∃ m, m = n % d := ⟨_, rfl⟩
      rw [← hq, ← hm] at h1
      rw [← hm] at h2 hp
      rw [← hq]
      have hn : (n : Int) = (d : Int) * q + m := by rw [← h1]; simp
      have : (-(n : Int)) = -((q + 1 : Nat) : Int) * d + ((d - m : Nat) : Int) := by
        rw [hn, Int.ofNat_sub (by omega), Int.neg_mul, Int.natCast_add, Int.add_mul, Int.mul_comm (q : Int) d]
        omega
      rw [this, Int.add_comm, Int.add_mul_ediv_right _ _ (by omega), Int.ediv_eq_zero_of_lt (by omega) (by omega)]
      omega
    · rename_i hp
      have e : (n : Int) = (d : Int) * (n / d : Nat) := by
        have : n = d * (n / d) := by omega
        rw [← Int.natCast_mul, ← this]
      rw [e, ← Int.mul_neg, Int.mul_ediv_cancel_left _ (by omega)]
theorem wrap_neg (A : Nat) (h : A ≤ 9223372036854775808) : wrap64 (IntKind.u64.wrap (-(A : Int))) = -(A : Int) := by
  have e : IntKind.u64.wrap (-(A : Int)) = (-(A : Int)) % 18446744073709551616 := rfl
  rw [e]; unfold wrap64; omega
theorem intS_lim {A : Nat} (h : (lim A).length ≤ 512) : intS (lim A) = if A < 18446744073709551616 then ((A : Int), 0) else (0, 7) := by
  unfold intS
  rw [if_pos (chkE_can h (lim_noZ _)), nv_lim]
  have e : (2 < (lim A).length) ↔ ¬ A < 18446744073709551616 := by
    rw [← Nat.not_le, lim_len_le]
  by_cases h1 : A < 18446744073709551616
  · rw [if_neg (fun h2 => e.1 h2 h1), if_pos h1]
  · rw [if_pos (e.2 h1), if_neg h1]
set_option maxRecDepth 100000 in
set_option maxHeartbeats 2000000 in
theorem floorR_any (va : Value) (ra : RR) (w : World) (ha : RdR w va ra) (la : LimR ra) :
    Calls Tryz.prog 66 #[va] w fun e w' => e = .returned (.tuple #[.int .i64 (floorR ra).1, .int .i64 (floorR ra).2]) ∧ Ext w w' := by
  have HCA := Lib.hid (chk_at ha la)
  have hof := fun W (x : Ext w W) => ofR_any va ra W (ha.ext x)
  obtain ⟨a1, c1, a2, c2, rfl⟩ := ha.shape
  obtain ⟨s1, l1, l2⟩ := ra
  dsimp only at HCA hof ⊢
  have HOF := Lib.hid hof
  have A0 := Lib.hid (Blk.new w #[.bool s1, .slice a1 l1.length c1, .slice a2 l2.length c2] 33)
  have X0 := Lib.hid ((Ext.refl w).alloc (.cells #[.bool s1, .slice a1 l1.length c1, .slice a2 l2.length c2] 33))
  by_cases hc : chkR ⟨s1, l1, l2⟩ = 0
  · rw [hc] at HCA
    obtain ⟨v1, v2, v3, v4, v5, v6⟩ := valid_len la hc
    dsimp only at v1 v2 v3 v4 v5 v6
    have hfl := floor_flA la hc
    dsimp only at hfl
    rw [← nv_dl] at hfl
    obtain ⟨A, hA⟩ : ∃ A, A = flA s1 (nv l1) (nv (dl l2)) := ⟨_, rfl⟩
    rw [← hA] at hfl
    have e : floorR ⟨s1, l1, l2⟩ = if -9223372036854775808 ≤ sg s1 A ∧ sg s1 A ≤ 9223372036854775807 then (sg s1 A, 0) else (0, 7) := by unfold floorR; rw [if_pos hc, hfl]
    have hq1 : (lim (nv l1 / nv (dl l2))).length ≤ 128 := Nat.le_trans (lim_len_le.2 (Nat.lt_of_le_of_lt (Nat.div_le_self _ _) (nv_lt la.1))) v1
    have hdv := divS_ok (l1 := l1) (l2 := dl l2) (by omega) v3 (by omega) v4 v5
    obtain ⟨q, hq⟩ : ∃ q, q = nv l1 / nv (dl l2) := ⟨_, rfl⟩
    obtain ⟨m, hm⟩ : ∃ m, m = nv l1 % nv (dl l2) := ⟨_, rfl⟩
    unfold flA at hA
    rw [← hq] at hA hq1 hdv
    rw [← hm] at hA hdv
    have hpl := add_short (P := q) (Q := 1) (k := 200) (by omega) (by rw [lim_one]; simp) (by omega)
    rw [lim_one] at hpl
    have E := Lib.hid e; have HAA := Lib.hid hA; have HDV := Lib.hid hdv; have HPL := Lib.hid hpl; have L1 := Lib.hid la.1; have V6 := Lib.hid v6
    clear e hA hdv hpl hfl hof ha hq hm v3 v4 v5 v6 hc la
    go_enter Tryz.func66, Tryz.ntmps66
    go_wp2_with fail
    refine (HCA.out _ X0.out).mono ?_
    rintro e w3 ⟨rfl, hx3⟩
    have P0 := Lib.hid (A0.out.ext hx3); have X3 := Lib.hid (X0.out.trans hx3)
    clear hx3
    have c0 := P0.out.cell; have f0 := P0.out.free; have l0 := P0.out.lt
    go_wp2_with fail
    refine (HOF.out _ X3.out).mono ?_
    rintro e w4 ⟨⟨vv, rfl, vn, vd, rfl, hn4, hd4⟩, hx4⟩
    obtain ⟨a5, c5, rfl⟩ := rdU_shape hn4
    obtain ⟨a6, c6, rfl⟩ := rdU_shape hd4
    have N4 := Lib.hid hn4; have D4 := Lib.hid hd4; have X4 := Lib.hid (X3.out.trans hx4)
    clear hx4 hn4 hd4 c0 f0 l0
    go_wp2_with fail
    have hdc := divMod_any (.slice a5 l1.length c5) (.slice a6 (dl l2).length c6) l1 (dl l2) (w4.alloc (.cells #[.slice a5 l1.length c5, .slice a6 (dl l2).length c6, .bool s1] 153)) (N4.out.ext ((Ext.refl w4).alloc _)) (D4.out.ext ((Ext.refl w4).alloc _)) L1.out V6.out
    rw [HDV.out] at hdc
    refine hdc.mono ?_
    clear hdc
    rintro e w5 ⟨⟨vq, vr, rfl, nq, nr⟩, hx5⟩
    obtain ⟨aq, cq, rfl⟩ := nq.shape
    obtain ⟨ar, cr, rfl⟩ := nr.shape
    have PV := Lib.hid ((Blk.new w4 #[.slice a5 l1.length c5, .slice a6 (dl l2).length c6, .bool s1] 153).ext hx5); have X5 := Lib.hid ((X4.out.alloc _).trans hx5); have NQ := Lib.hid nq.rd
    clear nq nr hx5
    have c0 := PV.out.cell; have f0 := PV.out.free; have l0 := PV.out.lt
    cases s1
    · have hAq : A = q := by rw [HAA.out]; simp
      have hA5 : (lim A).length ≤ 512 := by rw [hAq]; omega
      rw [← hAq] at NQ
      have XA := X5
      subst hAq
      have NA := NQ
      go_wp2_with fail
      have hin := int_any _ (lim A) _ NA.out (lim_lim _)
      rw [intS_lim hA5] at hin
      by_cases hbig : A < 18446744073709551616
      · rw [if_pos hbig] at hin
        have HIN := Lib.hid hin
        clear hin
        go_wp2_with fail
        refine HIN.out.mono ?_
        rintro e w9 ⟨rfl, hx9⟩
        have P9 := Lib.hid (PV.out.ext hx9); have X9 := Lib.hid (XA.out.trans hx9)
        clear hx9
        have c9 := P9.out.cell; have f9 := P9.out.free; have l9 := P9.out.lt
        by_cases h63 : A < 9223372036854775808
        · have q9 : (A : Int) ≤ 9223372036854775807 := by omega
          have q10 : ((A : Int) == 9223372036854775808) = false := by simp only [beq_eq_false_iff_ne]; omega
          have q11 : ¬ (9223372036854775808 : Int) < (A : Int) := by omega
          have e : floorR ⟨false, l1, l2⟩ = ((A : Int), 0) := by rw [E.out, if_pos (by unfold sg; simp only [Bool.false_eq_true, if_false]; omega)]; rfl
          have E2 := Lib.hid e
          clear e h63 hbig
          go_wp2_with fail
          all_goals
            go_ret2
            exact ⟨by rw [E2.out]; first | rfl | (simp only [wrap_neg A (by omega)]; rfl), X9.out⟩
        · have e : floorR ⟨false, l1, l2⟩ = (0, 7) := by rw [E.out, if_neg (by unfold sg; simp only [Bool.false_eq_true, if_false]; omega)]
          have E2 := Lib.hid e
          clear e
          by_cases hgt : 9223372036854775808 < A
          · have q9 : (9223372036854775808 : Int) < (A : Int) := by omega
            clear h63 hgt
            go_wp2_with fail
            all_goals
              go_ret2
              exact ⟨by rw [E2.out]; rfl, X9.out⟩
          · have q9 : ¬ (9223372036854775808 : Int) < (A : Int) := by omega
            have q10 : ((A : Int) == 9223372036854775808) = true := by simp only [beq_iff_eq]; omega
            clear h63 hgt
            go_wp2_with fail
            all_goals
              go_ret2
              exact ⟨by rw [E2.out]; rfl, X9.out⟩
      · rw [if_neg hbig] at hin
        have HIN := Lib.hid hin
        clear hin
        have e : floorR ⟨false, l1, l2⟩ = (0, 7) := by rw [E.out, if_neg (by unfold sg; simp only [Bool.false_eq_true, if_false]; omega)]
        have E2 := Lib.hid e
        clear e
        go_wp2_with fail
        refine HIN.out.mono ?_
        rintro e w9 ⟨rfl, hx9⟩
        have X9 := Lib.hid (XA.out.trans hx9)
        clear hx9
        go_wp2_with fail
        go_ret2
        exact ⟨by rw [E2.out]; rfl, X9.out⟩
    · by_cases hm0 : 0 < m
      · have hAq : A = q + 1 := by rw [HAA.out, if_pos ⟨rfl, hm0⟩]
        have hA5 : (lim A).length ≤ 512 := by
          rw [hAq]
          have := len_sum (x := q) (y := 1) (k := 200) (by omega) (by rw [lim_one]; simp) (Nat.le_refl _)
          omega
        rw [← hAq] at HPL
        have hml : (0 : Int) < ((lim m).length : Int) := by
          have : lim m ≠ [] := fun e => by have := nv_lim m; rw [e] at this; rw [show nv [] = 0 from rfl] at this; omega
          have := List.length_pos_iff.2 this
          omega
        clear hAq hm0
        go_wp2_with fail
        have hpl2 := plusR_any (.slice aq (lim q).length cq) (.slice (some ⟨w5.heap.size, 0, none⟩) 1 1) (lim q) [1] _ (NQ.out.ext ((Ext.refl w5).alloc (.cells #[.int .u32 1] 134))) (rdU_new w5 [1] (by simp)) (lim_lim _) (lims [1] (by decide))
        rw [HPL.out] at hpl2
        refine hpl2.mono ?_
        clear hpl2
        rintro e w6 ⟨⟨v6, rfl, n6⟩, hx6⟩
        obtain ⟨a7, c7, rfl⟩ := n6.shape
        have NA := Lib.hid n6.rd; have PV := Lib.hid ((PV.out.alloc (.cells #[.int .u32 1] 134)).ext hx6); have XA := Lib.hid ((X5.out.alloc (.cells #[.int .u32 1] 134)).trans hx6)
        clear n6 hx6 c0 f0 l0
        go_wp2_with fail
        have hin := int_any _ (lim A) _ NA.out (lim_lim _)
        rw [intS_lim hA5] at hin
        by_cases hbig : A < 18446744073709551616
        · rw [if_pos hbig] at hin
          have HIN := Lib.hid hin
          clear hin
          go_wp2_with fail
          refine HIN.out.mono ?_
          rintro e w9 ⟨rfl, hx9⟩
          have P9 := Lib.hid (PV.out.ext hx9); have X9 := Lib.hid (XA.out.trans hx9)
          clear hx9
          have c9 := P9.out.cell; have f9 := P9.out.free; have l9 := P9.out.lt
          by_cases h63 : A ≤ 9223372036854775808
          · have q9 : (A : Int) ≤ 9223372036854775808 := by omega
            have e : floorR ⟨true, l1, l2⟩ = (-(A : Int), 0) := by rw [E.out, if_pos (by unfold sg; simp only [if_true]; omega)]; rfl
            have E2 := Lib.hid e
            clear e
            have q11 : ¬ (9223372036854775808 : Int) < (A : Int) := by omega
            by_cases heq : A = 9223372036854775808
            · have q10 : ((A : Int) == 9223372036854775808) = true := by simp only [beq_iff_eq]; omega
              clear heq h63
              go_wp2_with fail
              all_goals
                go_ret2
                exact ⟨by rw [E2.out]; first | rfl | (simp only [wrap_neg A (by omega)]; rfl), X9.out⟩
            · have q10 : ((A : Int) == 9223372036854775808) = false := by simp only [beq_eq_false_iff_ne]; omega
              clear heq h63
              go_wp2_with fail
              all_goals
                go_ret2
                exact ⟨by rw [E2.out]; first | rfl | (simp only [wrap_neg A (by omega)]; rfl), X9.out⟩
          · have e : floorR ⟨true, l1, l2⟩ = (0, 7) := by rw [E.out, if_neg (by unfold sg; simp only [if_true]; omega)]
            have E2 := Lib.hid e
            clear e
            have q9 : (9223372036854775808 : Int) < (A : Int) := by omega
            clear h63
            go_wp2_with fail
            all_goals
              go_ret2
              exact ⟨by rw [E2.out]; rfl, X9.out⟩
        · rw [if_neg hbig] at hin
          have HIN := Lib.hid hin
          clear hin
          have e : floorR ⟨true, l1, l2⟩ = (0, 7) := by rw [E.out, if_neg (by unfold sg; simp only [if_true]; omega)]
          have E2 := Lib.hid e
          clear e
          go_wp2_with fail
          refine HIN.out.mono ?_
          rintro e w9 ⟨rfl, hx9⟩
          have X9 := Lib.hid (XA.out.trans hx9)
          clear hx9
          go_wp2_with fail
          go_ret2
          exact ⟨by rw [E2.out]; rfl, X9.out⟩
      · have hAq : A = q := by rw [HAA.out, if_neg (fun h => hm0 h.2)]
        have hA5 : (lim A).length ≤ 512 := by rw [hAq]; omega
        have hm1 : m = 0 := by omega
        have XA := X5
        subst hAq
        subst hm1
        have NA := NQ
        go_wp2_with fail
        have hin := int_any _ (lim A) _ NA.out (lim_lim _)
        rw [intS_lim hA5] at hin
        by_cases hbig : A < 18446744073709551616
        · rw [if_pos hbig] at hin
          have HIN := Lib.hid hin
          clear hin
          go_wp2_with fail
          refine HIN.out.mono ?_
          rintro e w9 ⟨rfl, hx9⟩
          have P9 := Lib.hid (PV.out.ext hx9); have X9 := Lib.hid (XA.out.trans hx9)
          clear hx9
          have c9 := P9.out.cell; have f9 := P9.out.free; have l9 := P9.out.lt
          by_cases h63 : A ≤ 9223372036854775808
          · have q9 : (A : Int) ≤ 9223372036854775808 := by omega
            have e : floorR ⟨true, l1, l2⟩ = (-(A : Int), 0) := by rw [E.out, if_pos (by unfold sg; simp only [if_true]; omega)]; rfl
            have E2 := Lib.hid e
            clear e
            have q11 : ¬ (9223372036854775808 : Int) < (A : Int) := by omega
            by_cases heq : A = 9223372036854775808
            · have q10 : ((A : Int) == 9223372036854775808) = true := by simp only [beq_iff_eq]; omega
              clear heq h63
              go_wp2_with fail
              all_goals
                go_ret2
                exact ⟨by rw [E2.out]; first | rfl | (simp only [wrap_neg A (by omega)]; rfl), X9.out⟩
            · have q10 : ((A : Int) == 9223372036854775808) = false := by simp only [beq_eq_false_iff_ne]; omega
              clear heq h63
              go_wp2_with fail
              all_goals
                go_ret2
                exact ⟨by rw [E2.out]; first | rfl | (simp only [wrap_neg A (by omega)]; rfl), X9.out⟩
          · have e : floorR ⟨true, l1, l2⟩ = (0, 7) := by rw [E.out, if_neg (by unfold sg; simp only [if_true]; omega)]
            have E2 := Lib.hid e
            clear e
            have q9 : (9223372036854775808 : Int) < (A : Int) := by omega
            clear h63
            go_wp2_with fail
            all_goals
              go_ret2
              exact ⟨by rw [E2.out]; rfl, X9.out⟩
        · rw [if_neg hbig] at hin
          have HIN := Lib.hid hin
          clear hin
          have e : floorR ⟨true, l1, l2⟩ = (0, 7) := by rw [E.out, if_neg (by unfold sg; simp only [if_true]; omega)]
          have E2 := Lib.hid e
          clear e
          go_wp2_with fail
          refine HIN.out.mono ?_
          rintro e w9 ⟨rfl, hx9⟩
          have X9 := Lib.hid (XA.out.trans hx9)
          clear hx9
          go_wp2_with fail
          go_ret2
          exact ⟨by rw [E2.out]; rfl, X9.out⟩
  · have e : floorR ⟨s1, l1, l2⟩ = (0, chkR ⟨s1, l1, l2⟩) := by unfold floorR; rw [if_neg hc]
    obtain ⟨cc, hcc⟩ : ∃ cc, cc = chkR ⟨s1, l1, l2⟩ := ⟨_, rfl⟩
    rw [← hcc] at HCA hc e
    have E := Lib.hid e
    have hcb' : (cc != 0) = true := by simpa using hc
    clear e hc hcc
    go_enter Tryz.func66, Tryz.ntmps66
    go_wp2_with fail
    refine (HCA.out _ X0.out).mono ?_
    rintro e w3 ⟨rfl, hx3⟩
    have X3 := Lib.hid (X0.out.trans hx3)
    clear hx3
    go_wp2_with fail
    go_ret2
    exact ⟨by rw [E.out]; rfl, X3.out⟩
end Go.Proofs.YtbnalhmcbolngaaGreat
namespace Go.Proofs.YtbnalhmcbolngaaGreat
set_option linter.unusedSimpArgs false
set_option linter.unusedVariables false
open Go.RowKit
def sl (s : ByteArray) : Int := Lib.indexByte s.data.toList 47
theorem slIdxByte_any (s : ByteArray) (w : World) :
    Calls Tryz.prog 202 #[.string s, .int .u8 47] w fun e w' => e = .returned (.int .i64 (sl s)) ∧ w' = w := by
  have hx : ∀ W, (callFunc 208 #[.string s, .int .u8 47]).run Tryz.prog W = .ok (.value (.int .i64 (sl s))) W := fun W => by
    rw [run_callFunc_extern Tryz.func208 (by kernel_rfl) (by kernel_rfl) (by kernel_rfl) (e := Extern.BytealgIndexByte.indexByte) (by kernel_rfl), Lib.run_indexByteString]
    rfl
  go_enter Tryz.func202, Tryz.ntmps202
  go_wp2
  go_ret
  exact ⟨rfl, rfl⟩
theorem slIdx_any (s : ByteArray) (w : World) :
    Calls Tryz.prog 194 #[.string s, .string ⟨#[47]⟩] w fun e w' => e = .returned (.int .i64 (sl s)) ∧ w' = w := by
  have h := slIdxByte_any s
  obtain ⟨I, hI⟩ : ∃ I, I = sl s := ⟨_, rfl⟩
  rw [← hI] at h ⊢
  have H := Lib.hid h; have HI := Lib.hid hI
  clear h hI
  go_enter Tryz.func194, Tryz.ntmps194
  go_wp2_with fail
  · rename_i h
    have e : s.data.toList = [47] := by rw [← Lib.toList_data]; exact (beq_iff_eq.1 h).symm
    have e0 : I = 0 := by rw [HI.out]; unfold sl; rw [e]; rfl
    subst e0
    go_ret
    exact ⟨rfl, rfl⟩
  · refine (H.out _).mono ?_
    rintro e w1 ⟨rfl, rfl⟩
    go_wp2_with fail
    go_ret
    exact ⟨rfl, rfl⟩
theorem sl_cases (s : ByteArray) : sl s = -1 ∨ ∃ i : Nat, sl s = i ∧ i < s.size := by
  have hge := Lib.indexByte_ge s.data.toList 47
  by_cases h : sl s = -1
  · exact Or.inl h
  · obtain ⟨i, hi⟩ : ∃ i : Nat, sl s = i := ⟨(sl s).toNat, by unfold sl at *; omega⟩
    have h1 := (Lib.indexByte_some hi).1
    have h2 := (List.getElem?_eq_some_iff.1 h1).1
    exact Or.inr ⟨i, hi, by simpa using h2⟩
def cutA (s : ByteArray) : ByteArray := if sl s = -1 then s else s.extract 0 (sl s).toNat
def cutB (s : ByteArray) : ByteArray := if sl s = -1 then ⟨#[]⟩ else s.extract ((sl s).toNat + 1) s.size
def cutI (s : ByteArray) : Bool := decide (sl s ≠ -1)
set_option maxHeartbeats 1000000 in
theorem slCut_any (s : ByteArray) (w : World) (hs : s.size ≤ 1000000000) :
    Calls Tryz.prog 181 #[.string s, .string ⟨#[47]⟩] w fun e w' => e = .returned (.tuple #[.string (cutA s), .string (cutB s), .bool (cutI s)]) ∧ Ext w w' := by
  have h := slIdx_any s
  rcases sl_cases s with hx | ⟨i, hx, hi⟩
  · have e1 : cutA s = s := by unfold cutA; rw [if_pos hx]
    have e2 : cutB s = ⟨#[]⟩ := by unfold cutB; rw [if_pos hx]
    have e3 : cutI s = false := by unfold cutI; rw [hx]; rfl
    rw [hx] at h
    rw [e1, e2, e3]
    have H := Lib.hid h
    clear h hx e1 e2 e3
    go_enter Tryz.func181, Tryz.ntmps181
    go_wp2_with fail
    refine (H.out _).mono ?_
    rintro e w1 ⟨rfl, rfl⟩
    go_wp2_with fail
    go_ret3
    exact ⟨rfl, Ext.refl _⟩
  · have e1 : cutA s = s.extract 0 i := by unfold cutA; rw [if_neg (by omega), hx]; rfl
    have e2 : cutB s = s.extract (i + 1) s.size := by unfold cutB; rw [if_neg (by omega), hx]; rfl
    have e3 : cutI s = true := by unfold cutI; rw [hx]; exact decide_eq_true (by omega)
    rw [hx] at h
    rw [e1, e2, e3]
    have H := Lib.hid h
    have q1 : (0 : Int) ≤ (i : Int) := by omega
    have q2 : (i : Int) ≤ (s.size : Int) := by omega
    have q3 : (0 : Int) ≤ (i : Int) + 1 := by omega
    have q4 : (i : Int) + 1 ≤ (s.size : Int) := by omega
    clear h hx e1 e2 e3
    go_enter Tryz.func181, Tryz.ntmps181
    go_wp2_with fail
    refine (H.out _).mono ?_
    rintro e w1 ⟨rfl, rfl⟩
    go_wp2_with fail
    have hmx : Tryz.prog.follows .mixedOrders = true := by kernel_rfl
    go_quiet (fail)
    go_wp2_with fail
    go_ret3
    exact ⟨rfl, by (repeat (first | (with_reducible exact Ext.refl _) | (with_reducible assumption) | (with_reducible refine Ext.alloc ?_ _) | ((with_reducible refine Ext.setp ?_ ?_); focus (dsimp only; omega)) | (with_reducible refine Ext.drew ?_) | (with_reducible refine Ext.drewN ?_ _) | (with_reducible refine Ext.trans ?_ (by assumption))))⟩
theorem strCut_any (s : ByteArray) (w : World) (hs : s.size ≤ 1000000000) :
    Calls Tryz.prog 158 #[.string s, .string ⟨#[47]⟩] w fun e w' => e = .returned (.tuple #[.string (cutA s), .string (cutB s), .bool (cutI s)]) ∧ Ext w w' := by
  have H := Lib.hid (fun W => slCut_any s W hs)
  obtain ⟨A, hA⟩ : ∃ A, A = cutA s := ⟨_, rfl⟩
  obtain ⟨B, hB⟩ : ∃ B, B = cutB s := ⟨_, rfl⟩
  obtain ⟨C, hC⟩ : ∃ C, C = cutI s := ⟨_, rfl⟩
  rw [← hA, ← hB, ← hC] at H ⊢
  clear hA hB hC
  go_enter Tryz.func158, Tryz.ntmps158
  go_wp2_with fail
  refine (H.out _).mono ?_
  rintro e w1 ⟨rfl, hx1⟩
  have X1 := Lib.hid hx1
  clear hx1
  go_wp2_with fail
  go_ret3
  exact ⟨rfl, X1.out⟩
def negT (s : ByteArray) : Bool := decide (1 ≤ s.size) && ((s.extract 0 1).toList == [45])
def bodyT (s : ByteArray) : ByteArray := if negT s = true then s.extract 1 s.size else s
set_option maxHeartbeats 1000000 in
theorem slPre_any (s : ByteArray) (w : World) :
    Calls Tryz.prog 193 #[.string s, .string ⟨#[45]⟩] w fun e w' => e = .returned (.bool (negT s)) ∧ w' = w := by
  by_cases h1 : 1 ≤ s.size
  · cases h2 : ((s.extract 0 1).toList == [45])
    · have e : negT s = false := by unfold negT; rw [h2]; simp
      rw [e]
      clear e
      go_enter Tryz.func193, Tryz.ntmps193
      go_wp2
      go_ret
      exact ⟨rfl, rfl⟩
    · have e : negT s = true := by unfold negT; rw [h2]; simp [h1]
      rw [e]
      clear e
      go_enter Tryz.func193, Tryz.ntmps193
      go_wp2
      go_ret
      exact ⟨rfl, rfl⟩
  · have e : negT s = false := by unfold negT; simp [h1]
    rw [e]
    clear e
    go_enter Tryz.func193, Tryz.ntmps193
    go_wp2
    go_ret
    exact ⟨rfl, rfl⟩
set_option maxHeartbeats 1000000 in
theorem slCutPre_any (s : ByteArray) (w : World) (hs : s.size ≤ 1000000000) :
    Calls Tryz.prog 180 #[.string s, .string ⟨#[45]⟩] w fun e w' => e = .returned (.tuple #[.string (bodyT s), .bool (negT s)]) ∧ w' = w := by
  have h := slPre_any s
  cases hn : negT s
  · have e : bodyT s = s := by unfold bodyT; rw [hn]; rfl
    rw [e]
    rw [hn] at h
    have H := Lib.hid h
    clear h hn e
    go_enter Tryz.func180, Tryz.ntmps180
    go_wp2_with fail
    refine (H.out _).mono ?_
    rintro e w1 ⟨rfl, rfl⟩
    go_wp2_with fail
    go_ret2
    exact ⟨rfl, rfl⟩
  · have e : bodyT s = s.extract 1 s.size := by unfold bodyT; rw [hn]; rfl
    have h1 : 1 ≤ s.size := by unfold negT at hn; simp at hn; omega
    have q1 : (1 : Int) ≤ (s.size : Int) := by omega
    rw [e]
    rw [hn] at h
    have H := Lib.hid h
    clear h hn e
    go_enter Tryz.func180, Tryz.ntmps180
    go_wp2_with fail
    refine (H.out _).mono ?_
    rintro e w1 ⟨rfl, rfl⟩
    go_wp2_with fail
    go_ret2
    exact ⟨rfl, rfl⟩
theorem strCutPre_any (s : ByteArray) (w : World) (hs : s.size ≤ 1000000000) :
    Calls Tryz.prog 157 #[.string s, .string ⟨#[45]⟩] w fun e w' => e = .returned (.tuple #[.string (bodyT s), .bool (negT s)]) ∧ w' = w := by
  have H := Lib.hid (fun W => slCutPre_any s W hs)
  obtain ⟨A, hA⟩ : ∃ A, A = bodyT s := ⟨_, rfl⟩
  obtain ⟨B, hB⟩ : ∃ B, B = negT s := ⟨_, rfl⟩
  rw [← hA, ← hB] at H ⊢
  clear hA hB
  go_enter Tryz.func157, Tryz.ntmps157
  go_wp2_with fail
  refine (H.out _).mono ?_
  rintro e w1 ⟨rfl, rfl⟩
  go_wp2_with fail
  go_ret2
  exact ⟨rfl, rfl⟩
end Go.Proofs.YtbnalhmcbolngaaGreat
namespace Go.Proofs.YtbnalhmcbolngaaGreat
set_option linter.unusedSimpArgs false
set_option linter.unusedVariables false
open Go.RowKit
def okQ (r : RR) : RR × Int := if chkR r = 0 then (r, 0) else (zR, 2)
def parseQ (s : ByteArray) : RR × Int :=
  if 4096 < s.size then (zR, 4)
  else if (parseS (cutA (bodyT s))).2 ≠ 0 then (zR, 2)
  else if cutI (bodyT s) = true then
    (if (parseS (cutB (bodyT s))).2 ≠ 0 ∨ (parseS (cutB (bodyT s))).1 = [] then (zR, 2)
     else okQ ⟨negT s, (parseS (cutA (bodyT s))).1, (parseS (cutB (bodyT s))).1⟩)
  else okQ ⟨negT s, (parseS (cutA (bodyT s))).1, []⟩
theorem bodyT_size (s : ByteArray) : (bodyT s).size ≤ s.size := by
  unfold bodyT
  split
  · rw [ByteArray.size_extract]; omega
  · exact Nat.le_refl _
set_option maxHeartbeats 4000000 in
theorem parseR_any (s : ByteArray) (w : World) :
    Calls Tryz.prog 109 #[.string s] w fun e w' => ResR w w' e (parseQ s) ∧ Ext w w' := by
  have b0 := Blk.new w #[.bool false, .slice none 0 0, .slice none 0 0] 33
  have B0 := Lib.hid b0; have X0 := Lib.hid ((Ext.refl w).alloc (.cells #[.bool false, .slice none 0 0, .slice none 0 0] 33))
  clear b0
  by_cases hsz : 4096 < s.size
  · have e1 : parseQ s = (zR, 4) := by unfold parseQ; rw [if_pos hsz]
    have E := Lib.hid e1
    clear e1
    go_enter Tryz.func109, Tryz.ntmps109
    go_wp2_with fail
    exact bodyPost_ret (v := .tuple #[.agg #[.bool false, .slice none 0 0, .slice none 0 0], .int .i64 4]) (by simp only [results, Tryz.results109]; go_simp) rfl ⟨ResR.mk (NewR.zero _ _) E.out, by (repeat (first | (with_reducible exact Ext.refl _) | (with_reducible assumption) | (with_reducible refine Ext.alloc ?_ _) | ((with_reducible refine Ext.setp ?_ ?_); focus (dsimp only; omega)) | (with_reducible refine Ext.drew ?_) | (with_reducible refine Ext.drewN ?_ _) | (with_reducible refine Ext.trans ?_ (by assumption))))⟩
  · have e1 : parseQ s = if (parseS (cutA (bodyT s))).2 ≠ 0 then (zR, 2) else if cutI (bodyT s) = true then (if (parseS (cutB (bodyT s))).2 ≠ 0 ∨ (parseS (cutB (bodyT s))).1 = [] then (zR, 2) else okQ ⟨negT s, (parseS (cutA (bodyT s))).1, (parseS (cutB (bodyT s))).1⟩) else okQ ⟨negT s, (parseS (cutA (bodyT s))).1, []⟩ := by unfold parseQ; rw [if_neg hsz]
    have hts := bodyT_size s
    have hc1 := fun W => strCutPre_any s W (by omega)
    have hc2 := fun W => strCut_any (bodyT s) W (by omega)
    obtain ⟨T, hT⟩ : ∃ T, T = bodyT s := ⟨_, rfl⟩
    obtain ⟨ng, hng⟩ : ∃ ng, ng = negT s := ⟨_, rfl⟩
    obtain ⟨A, hA⟩ : ∃ A, A = cutA T := ⟨_, rfl⟩
    obtain ⟨B, hB⟩ : ∃ B, B = cutB T := ⟨_, rfl⟩
    obtain ⟨I, hI⟩ : ∃ I, I = cutI T := ⟨_, rfl⟩
    rw [← hT] at e1 hc1 hc2
    rw [← hng] at e1 hc1
    rw [← hA, ← hB, ← hI] at e1 hc2
    have E := Lib.hid e1; have HC1 := Lib.hid hc1; have HC2 := Lib.hid hc2
    clear e1 hc1 hc2 hT hng hA hB hI hts
    go_enter Tryz.func109, Tryz.ntmps109
    go_wp2_with fail
    refine (HC1.out _).mono ?_
    rintro e w1 ⟨rfl, rfl⟩
    go_wp2_with fail
    have b1 := Blk.new w #[.bool ng, .slice none 0 0, .slice none 0 0] 33
    have x1 := (Ext.refl w).alloc (.cells #[.bool ng, .slice none 0 0, .slice none 0 0] 33)
    refine (HC2.out _).mono ?_
    rintro e w2 ⟨rfl, hx2⟩
    have B2 := Lib.hid (b1.ext hx2); have X2 := Lib.hid (x1.trans hx2)
    clear hx2 b1 x1
    go_wp2_with fail
    refine (parse_any A _).mono ?_
    rintro e w3 ⟨⟨v3, rfl, n3⟩, hx3⟩
    have B3 := Lib.hid (B2.out.ext hx3); have X3 := Lib.hid (X2.out.trans hx3)
    have n3 := n3.from X2.out
    clear hx3
    have c0 := B3.out.cell; have f0 := B3.out.free; have l0 := B3.out.lt
    rcases parse_cases A with ⟨n, hn, hp, _⟩ | ⟨c, hc, hp⟩
    · have e1 := E.out
      rw [hp] at n3 e1 ⊢
      dsimp only at n3 e1 ⊢
      rw [if_neg (by decide)] at e1
      obtain ⟨a3, c3, rfl⟩ := n3.shape
      obtain ⟨L, hL⟩ : ∃ L, L = lim n := ⟨_, rfl⟩
      rw [← hL] at n3 e1 ⊢
      have LL : Hid (Lim L) := Lib.hid (by rw [hL]; exact lim_lim _)
      have N3 := Lib.hid n3; have E1 := Lib.hid e1
      clear n3 e1 hp hn hL E
      cases hI : I
      · rw [hI] at E1
        have e2 := E1.out
        rw [if_neg (by decide)] at e2
        have E2 := Lib.hid e2
        clear e2 E1 hI
        go_wp2_with fail
        have b4 : Blk (w3.setCell ⟨w.heap.size, 1, none⟩ (.slice a3 L.length c3)) w.heap.size #[.bool ng, .slice a3 L.length c3, .slice none 0 0] 33 := by
          have := B3.out.set 1 (.slice a3 L.length c3); simpa using this
        have B4 := Lib.hid b4
        have X4 := Lib.hid (X3.out.set (p := ⟨w.heap.size, 1, none⟩) (Nat.le_refl _) (.slice a3 L.length c3))
        have N4 := Lib.hid (OwB.setBlk N3.out B3.out (by decide) 1 (.slice a3 L.length c3))
        clear b4 N3
        have hchk := checkR_any (.agg #[.bool ng, .slice a3 L.length c3, .slice none 0 0]) ⟨ng, L, []⟩ (w3.setCell ⟨w.heap.size, 1, none⟩ (.slice a3 L.length c3)) ⟨_, _, rfl, NewV.rd N4.out, NewV.rd (NewV.nil w (w3.setCell ⟨w.heap.size, 1, none⟩ (.slice a3 L.length c3)))⟩ ⟨LL.out, (fun x hx => by cases hx)⟩
        by_cases hz0 : chkR ⟨ng, L, []⟩ = 0
        · rw [hz0] at hchk
          have e5 := E2.out
          unfold okQ at e5
          rw [if_pos hz0] at e5
          have E5 := Lib.hid e5; have HCH := Lib.hid hchk
          clear e5 hchk hz0
          refine HCH.out.mono ?_
          rintro e w7 ⟨rfl, hx7⟩
          have B7 := Lib.hid (B4.out.ext hx7); have X7 := Lib.hid (X4.out.trans hx7); have N7 := Lib.hid (NewV.ext N4.out hx7); have P7 := Lib.hid (NewV.ext (NewV.nil w (w3.setCell ⟨w.heap.size, 1, none⟩ (.slice a3 L.length c3))) hx7)
          clear hx7 c0 f0 l0
          have c0 := B7.out.cell; have f0 := B7.out.free; have l0 := B7.out.lt
          go_wp2_with fail
          refine bodyPost_ret (v := .tuple #[.agg #[.bool ng, .slice a3 L.length c3, .slice none 0 0], .int .i64 0]) (by simp only [results, Tryz.results109]; go_simp) rfl ⟨ResR.mk (NewR.set3 (r := ⟨ng, L, []⟩) ⟨_, _, rfl, N7.out, P7.out⟩ B7.out (by decide) _ _ _) E5.out, ?_⟩
          have := X7.out; (repeat (first | (with_reducible exact Ext.refl _) | (with_reducible assumption) | (with_reducible refine Ext.alloc ?_ _) | ((with_reducible refine Ext.setp ?_ ?_); focus (dsimp only; omega)) | (with_reducible refine Ext.drew ?_) | (with_reducible refine Ext.drewN ?_ _) | (with_reducible refine Ext.trans ?_ (by assumption))))
        · have e5 := E2.out
          unfold okQ at e5
          rw [if_neg hz0] at e5
          obtain ⟨cc, hcc⟩ : ∃ cc, cc = chkR ⟨ng, L, []⟩ := ⟨_, rfl⟩
          rw [← hcc] at hchk hz0
          have hzb : (cc != 0) = true := by simpa using hz0
          have E5 := Lib.hid e5; have HCH := Lib.hid hchk
          clear e5 hchk hz0 hcc
          refine HCH.out.mono ?_
          rintro e w7 ⟨rfl, hx7⟩
          have B7 := Lib.hid (B4.out.ext hx7); have X7 := Lib.hid (X4.out.trans hx7)
          clear hx7 c0 f0 l0
          have c0 := B7.out.cell; have f0 := B7.out.free; have l0 := B7.out.lt
          go_wp2_with fail
          refine bodyPost_ret (v := .tuple #[.agg #[.bool false, .slice none 0 0, .slice none 0 0], .int .i64 2]) (by simp only [results, Tryz.results109]; go_simp) rfl ⟨ResR.mk (NewR.zero _ _) E5.out, ?_⟩
          have := X7.out; (repeat (first | (with_reducible exact Ext.refl _) | (with_reducible assumption) | (with_reducible refine Ext.alloc ?_ _) | ((with_reducible refine Ext.setp ?_ ?_); focus (dsimp only; omega)) | (with_reducible refine Ext.drew ?_) | (with_reducible refine Ext.drewN ?_ _) | (with_reducible refine Ext.trans ?_ (by assumption))))
      · rw [hI] at E1
        have e2 := E1.out
        rw [if_pos rfl] at e2
        have E2 := Lib.hid e2
        clear e2 E1 hI
        go_wp2_with fail
        have b4 : Blk (w3.setCell ⟨w.heap.size, 1, none⟩ (.slice a3 L.length c3)) w.heap.size #[.bool ng, .slice a3 L.length c3, .slice none 0 0] 33 := by
          have := B3.out.set 1 (.slice a3 L.length c3); simpa using this
        have B4 := Lib.hid b4
        have X4 := Lib.hid (X3.out.set (p := ⟨w.heap.size, 1, none⟩) (Nat.le_refl _) (.slice a3 L.length c3))
        have N4 := Lib.hid (OwB.setBlk N3.out B3.out (by decide) 1 (.slice a3 L.length c3))
        clear b4 N3
        refine (parse_any B _).mono ?_
        rintro e w5 ⟨⟨v5, rfl, n5⟩, hx5⟩
        have B5 := Lib.hid (B4.out.ext hx5); have X5 := Lib.hid (X4.out.trans hx5); have M4 := Lib.hid (N4.out.ext hx5)
        have n5 := n5.from X4.out
        clear hx5 c0 f0 l0
        have c0 := B5.out.cell; have f0 := B5.out.free; have l0 := B5.out.lt
        rcases parse_cases B with ⟨m, hm, hp, _⟩ | ⟨c, hc, hp⟩
        · have e3 := E2.out
          rw [hp] at n5 e3 ⊢
          dsimp only at n5 e3 ⊢
          obtain ⟨a5, c5, rfl⟩ := n5.shape
          obtain ⟨K, hK⟩ : ∃ K, K = lim m := ⟨_, rfl⟩
          rw [← hK] at n5 e3 ⊢
          have LK : Hid (Lim K) := Lib.hid (by rw [hK]; exact lim_lim _)
          have N5 := Lib.hid n5
          clear n5 hp hm hK E2
          by_cases hz : K.length = 0
          · rw [if_pos (Or.inr (List.length_eq_zero_iff.1 hz))] at e3
            have E3 := Lib.hid e3
            have hz' : ((K.length : Int) == 0) = true := by simp [hz]
            clear e3 hz
            go_wp2_with fail
            refine bodyPost_ret (v := .tuple #[.agg #[.bool false, .slice none 0 0, .slice none 0 0], .int .i64 2]) (by simp only [results, Tryz.results109]; go_simp) rfl ⟨ResR.mk (NewR.zero _ _) E3.out, ?_⟩
            have := X5.out; (repeat (first | (with_reducible exact Ext.refl _) | (with_reducible assumption) | (with_reducible refine Ext.alloc ?_ _) | ((with_reducible refine Ext.setp ?_ ?_); focus (dsimp only; omega)) | (with_reducible refine Ext.drew ?_) | (with_reducible refine Ext.drewN ?_ _) | (with_reducible refine Ext.trans ?_ (by assumption))))
          · rw [if_neg (by rintro (h | h); exact h rfl; exact hz (by rw [h]; rfl))] at e3
            have E3 := Lib.hid e3
            have hz' : ((K.length : Int) == 0) = false := by simp only [beq_eq_false_iff_ne]; omega
            clear e3 hz
            go_wp2_with fail
            have b6 : Blk (w5.setCell ⟨w.heap.size, 2, none⟩ (.slice a5 K.length c5)) w.heap.size #[.bool ng, .slice a3 L.length c3, .slice a5 K.length c5] 33 := by
              have := B5.out.set 2 (.slice a5 K.length c5); simpa using this
            have B6 := Lib.hid b6
            have X6 := Lib.hid (X5.out.set (p := ⟨w.heap.size, 2, none⟩) (Nat.le_refl _) (.slice a5 K.length c5))
            have N6 := Lib.hid (OwB.setBlk M4.out B5.out (by decide) 2 (.slice a5 K.length c5))
            have P6 := Lib.hid (OwB.setBlk N5.out B5.out (by decide) 2 (.slice a5 K.length c5))
            clear b6
            have hchk := checkR_any (.agg #[.bool ng, .slice a3 L.length c3, .slice a5 K.length c5]) ⟨ng, L, K⟩ (w5.setCell ⟨w.heap.size, 2, none⟩ (.slice a5 K.length c5)) ⟨_, _, rfl, NewV.rd N6.out, NewV.rd P6.out⟩ ⟨LL.out, LK.out⟩
            by_cases hz0 : chkR ⟨ng, L, K⟩ = 0
            · rw [hz0] at hchk
              have e5 := E3.out
              unfold okQ at e5
              rw [if_pos hz0] at e5
              have E5 := Lib.hid e5; have HCH := Lib.hid hchk
              clear e5 hchk hz0
              refine HCH.out.mono ?_
              rintro e w7 ⟨rfl, hx7⟩
              have B7 := Lib.hid (B6.out.ext hx7); have X7 := Lib.hid (X6.out.trans hx7); have N7 := Lib.hid (NewV.ext N6.out hx7); have P7 := Lib.hid (NewV.ext P6.out hx7)
              clear hx7 c0 f0 l0
              have c0 := B7.out.cell; have f0 := B7.out.free; have l0 := B7.out.lt
              go_wp2_with fail
              refine bodyPost_ret (v := .tuple #[.agg #[.bool ng, .slice a3 L.length c3, .slice a5 K.length c5], .int .i64 0]) (by simp only [results, Tryz.results109]; go_simp) rfl ⟨ResR.mk (NewR.set3 (r := ⟨ng, L, K⟩) ⟨_, _, rfl, N7.out, P7.out⟩ B7.out (by decide) _ _ _) E5.out, ?_⟩
              have := X7.out; (repeat (first | (with_reducible exact Ext.refl _) | (with_reducible assumption) | (with_reducible refine Ext.alloc ?_ _) | ((with_reducible refine Ext.setp ?_ ?_); focus (dsimp only; omega)) | (with_reducible refine Ext.drew ?_) | (with_reducible refine Ext.drewN ?_ _) | (with_reducible refine Ext.trans ?_ (by assumption))))
            · have e5 := E3.out
              unfold okQ at e5
              rw [if_neg hz0] at e5
              obtain ⟨cc, hcc⟩ : ∃ cc, cc = chkR ⟨ng, L, K⟩ := ⟨_, rfl⟩
              rw [← hcc] at hchk hz0
              have hzb : (cc != 0) = true := by simpa using hz0
              have E5 := Lib.hid e5; have HCH := Lib.hid hchk
              clear e5 hchk hz0 hcc
              refine HCH.out.mono ?_
              rintro e w7 ⟨rfl, hx7⟩
              have B7 := Lib.hid (B6.out.ext hx7); have X7 := Lib.hid (X6.out.trans hx7)
              clear hx7 c0 f0 l0
              have c0 := B7.out.cell; have f0 := B7.out.free; have l0 := B7.out.lt
              go_wp2_with fail
              refine bodyPost_ret (v := .tuple #[.agg #[.bool false, .slice none 0 0, .slice none 0 0], .int .i64 2]) (by simp only [results, Tryz.results109]; go_simp) rfl ⟨ResR.mk (NewR.zero _ _) E5.out, ?_⟩
              have := X7.out; (repeat (first | (with_reducible exact Ext.refl _) | (with_reducible assumption) | (with_reducible refine Ext.alloc ?_ _) | ((with_reducible refine Ext.setp ?_ ?_); focus (dsimp only; omega)) | (with_reducible refine Ext.drew ?_) | (with_reducible refine Ext.drewN ?_ _) | (with_reducible refine Ext.trans ?_ (by assumption))))
        · have e3 := E2.out
          rw [hp] at n5 e3 ⊢
          dsimp only at n5 e3 ⊢
          rw [if_pos (Or.inl hc)] at e3
          have E3 := Lib.hid e3
          obtain ⟨a5, c5, rfl⟩ := n5.shape
          have hcb : (c != 0) = true := by simpa using hc
          clear e3 hp hc n5 E2
          go_wp2_with fail
          refine bodyPost_ret (v := .tuple #[.agg #[.bool false, .slice none 0 0, .slice none 0 0], .int .i64 2]) (by simp only [results, Tryz.results109]; go_simp) rfl ⟨ResR.mk (NewR.zero _ _) E3.out, ?_⟩
          have := X5.out; (repeat (first | (with_reducible exact Ext.refl _) | (with_reducible assumption) | (with_reducible refine Ext.alloc ?_ _) | ((with_reducible refine Ext.setp ?_ ?_); focus (dsimp only; omega)) | (with_reducible refine Ext.drew ?_) | (with_reducible refine Ext.drewN ?_ _) | (with_reducible refine Ext.trans ?_ (by assumption))))
    · have e3 := E.out
      rw [hp] at n3 e3 ⊢
      dsimp only at n3 e3 ⊢
      rw [if_pos hc] at e3
      have E3 := Lib.hid e3
      obtain ⟨a3, c3, rfl⟩ := n3.shape
      have hcb : (c != 0) = true := by simpa using hc
      clear e3 hp hc n3 E
      go_wp2_with fail
      refine bodyPost_ret (v := .tuple #[.agg #[.bool false, .slice none 0 0, .slice none 0 0], .int .i64 2]) (by simp only [results, Tryz.results109]; go_simp) rfl ⟨ResR.mk (NewR.zero _ _) E3.out, ?_⟩
      have := X3.out; (repeat (first | (with_reducible exact Ext.refl _) | (with_reducible assumption) | (with_reducible refine Ext.alloc ?_ _) | ((with_reducible refine Ext.setp ?_ ?_); focus (dsimp only; omega)) | (with_reducible refine Ext.drew ?_) | (with_reducible refine Ext.drewN ?_ _) | (with_reducible refine Ext.trans ?_ (by assumption))))
end Go.Proofs.YtbnalhmcbolngaaGreat
namespace Go.Proofs.YtbnalhmcbolngaaGreat
set_option linter.unusedSimpArgs false
set_option linter.unusedVariables false
open Go.RowKit
theorem RdR.parts {w : World} {v : Value} {r : RR} (h : RdR w v r) : ∃ a c a2 c2, v = .agg #[.bool r.neg, .slice a r.num.length c, .slice a2 r.den.length c2] ∧ RdI .u32 w (.slice a r.num.length c) r.num ∧ RdI .u32 w (.slice a2 r.den.length c2) r.den := by
  obtain ⟨vn, vd, rfl, h1, h2⟩ := h
  obtain ⟨a, c, rfl⟩ := rdU_shape h1
  obtain ⟨a2, c2, rfl⟩ := rdU_shape h2
  exact ⟨a, c, a2, c2, rfl, h1, h2⟩
set_option maxHeartbeats 2000000 in
theorem equalRat_any (v1 v2 : Value) (r1 r2 : RR) (w : World) (h1 : RdR w v1 r1) (h2 : RdR w v2 r2) :
    Calls Tryz.prog 14 #[v1, v2] w fun e w' => e = .returned (.bool (decide (r1 = r2))) ∧ Ext w w' := by
  obtain ⟨a1, c1, a2, c2, rfl, n1, d1⟩ := h1.parts
  obtain ⟨a3, c3, a4, c4, rfl, n2, d2⟩ := h2.parts
  obtain ⟨s1, l1, l2⟩ := r1
  obtain ⟨s2, l3, l4⟩ := r2
  dsimp only at n1 d1 n2 d2 ⊢
  have N1 := Lib.hid n1; have D1 := Lib.hid d1; have N2 := Lib.hid n2; have D2 := Lib.hid d2
  clear n1 d1 n2 d2 h1 h2
  have b0 := (Blk.new w #[.bool s1, .slice a1 l1.length c1, .slice a2 l2.length c2] 33).alloc (.cells #[.bool s2, .slice a3 l3.length c3, .slice a4 l4.length c4] 33)
  have b1 := Blk.new (w.alloc (.cells #[.bool s1, .slice a1 l1.length c1, .slice a2 l2.length c2] 33)) #[.bool s2, .slice a3 l3.length c3, .slice a4 l4.length c4] 33
  rw [World.size_alloc] at b1
  have x0 : Ext w ((w.alloc (.cells #[.bool s1, .slice a1 l1.length c1, .slice a2 l2.length c2] 33)).alloc (.cells #[.bool s2, .slice a3 l3.length c3, .slice a4 l4.length c4] 33)) := ((Ext.refl w).alloc _).alloc _
  have B0 := Lib.hid b0; have B1 := Lib.hid b1; have X0 := Lib.hid x0
  clear b0 b1 x0
  by_cases hs : s1 = s2
  · subst hs
    have he1 := fun W h h' => equalNat_any (.slice a1 l1.length c1) (.slice a3 l3.length c3) l1 l3 W h h'
    have he2 := fun W h h' => equalNat_any (.slice a2 l2.length c2) (.slice a4 l4.length c4) l2 l4 W h h'
    by_cases hn : l1 = l3
    · rw [decide_eq_true hn] at he1
      have e : decide ((⟨s1, l1, l2⟩ : RR) = ⟨s1, l3, l4⟩) = decide (l2 = l4) := by
        rw [hn]; simp
      obtain ⟨r, hr⟩ : ∃ r, r = decide (l2 = l4) := ⟨_, rfl⟩
      rw [← hr] at he2 e
      rw [e]
      have HE1 := Lib.hid he1; have HE2 := Lib.hid he2
      clear he1 he2 hn e hr
      cases s1
      all_goals
        go_enter Tryz.func14, Tryz.ntmps14
        go_wp2_with fail
        refine (HE1.out _ (N1.out.ext X0.out) (N2.out.ext X0.out)).mono ?_
        rintro e w1 ⟨rfl, hx1⟩
        have P0 := Lib.hid (B0.out.ext hx1); have P1 := Lib.hid (B1.out.ext hx1); have X1 := Lib.hid (X0.out.trans hx1)
        clear hx1
        have k0 := P0.out.cell; have k1 := P1.out.cell; have m0 := P0.out.lt; have m1 := P1.out.lt
        go_wp2_with fail
        refine (HE2.out _ (D1.out.ext X1.out) (D2.out.ext X1.out)).mono ?_
        rintro e w2 ⟨rfl, hx2⟩
        have X2 := Lib.hid (X1.out.trans hx2)
        clear hx2 k0 k1 m0 m1
        go_wp2_with fail
        go_ret
        exact ⟨rfl, X2.out⟩
    · rw [decide_eq_false hn] at he1
      have e : decide ((⟨s1, l1, l2⟩ : RR) = ⟨s1, l3, l4⟩) = false := by
        rw [decide_eq_false_iff_not]; intro h; injection h with _ h2; exact hn h2
      rw [e]
      have HE1 := Lib.hid he1
      clear he1 he2 hn e
      cases s1
      all_goals
        go_enter Tryz.func14, Tryz.ntmps14
        go_wp2_with fail
        refine (HE1.out _ (N1.out.ext X0.out) (N2.out.ext X0.out)).mono ?_
        rintro e w1 ⟨rfl, hx1⟩
        have X1 := Lib.hid (X0.out.trans hx1)
        clear hx1
        go_wp2_with fail
        go_ret
        exact ⟨rfl, X1.out⟩
  · have e : decide ((⟨s1, l1, l2⟩ : RR) = ⟨s2, l3, l4⟩) = false := by
      rw [decide_eq_false_iff_not]; intro h; injection h with h2; exact hs h2
    rw [e]
    clear e
    cases s1 <;> cases s2
    all_goals first
      | exact absurd rfl hs
      | skip
    all_goals
      clear hs
      go_enter Tryz.func14, Tryz.ntmps14
      go_wp2_with fail
      go_ret
      exact ⟨rfl, X0.out⟩
def ofS (p q : Int) : RR := if (ofR p q).2 = 0 then (ofR p q).1 else ⟨true, [], []⟩
set_option maxHeartbeats 1000000 in
theorem ofS_any (p q : Int) (w : World) (h0 : -9223372036854775808 ≤ p) (h1 : p ≤ 9223372036854775807) (h2 : -9223372036854775808 ≤ q) (h3 : q ≤ 9223372036854775807) :
    Calls Tryz.prog 108 #[.int .i64 p, .int .i64 q] w fun e w' => (∃ v, e = .returned v ∧ NewR w w' v (ofS p q)) ∧ Ext w w' := by
  have hof := fun W => ofnR_any p q W h0 h1 h2 h3
  have b0 := Blk.new w #[.bool false, .slice none 0 0, .slice none 0 0] 33
  have B0 := Lib.hid b0; have X0 := Lib.hid ((Ext.refl w).alloc (.cells #[.bool false, .slice none 0 0, .slice none 0 0] 33))
  clear b0
  have e0 : ofS p q = if (ofR p q).2 = 0 then (ofR p q).1 else ⟨true, [], []⟩ := rfl
  obtain ⟨R, hR⟩ : ∃ R, R = ofR p q := ⟨_, rfl⟩
  rw [← hR] at hof e0
  obtain ⟨r, c⟩ := R
  dsimp only at e0
  have HOF := Lib.hid hof
  clear hof hR
  by_cases hc : c = 0
  · subst hc
    rw [if_pos rfl] at e0
    rw [e0]
    clear e0
    go_enter Tryz.func108, Tryz.ntmps108
    go_wp2_with fail
    refine (HOF.out _).mono ?_
    rintro e w1 ⟨⟨v, rfl, n1⟩, hx1⟩
    obtain ⟨a1, c1, a2, c2, rfl⟩ := n1.shape
    have n1 := n1.from X0.out
    have B1 := Lib.hid (B0.out.ext hx1); have X1 := Lib.hid (X0.out.trans hx1); have N1 := Lib.hid n1
    clear n1 hx1
    dsimp only at N1 ⊢
    obtain ⟨s1, l1, l2⟩ := r
    dsimp only at N1 ⊢
    have c0 := B1.out.cell; have f0 := B1.out.free; have l0 := B1.out.lt
    go_wp2_with fail
    refine bodyPost_ret (v := .agg #[.bool s1, .slice a1 l1.length c1, .slice a2 l2.length c2]) (by simp only [results, Tryz.results108]; go_simp) rfl ⟨⟨_, rfl, (NewR.set3 N1.out B1.out (by decide) _ _ _).ext ((Ext.refl _).alloc _)⟩, ?_⟩
    have := X1.out; (repeat (first | (with_reducible exact Ext.refl _) | (with_reducible assumption) | (with_reducible refine Ext.alloc ?_ _) | ((with_reducible refine Ext.setp ?_ ?_); focus (dsimp only; omega)) | (with_reducible refine Ext.drew ?_) | (with_reducible refine Ext.drewN ?_ _) | (with_reducible refine Ext.trans ?_ (by assumption))))
  · rw [if_neg hc] at e0
    rw [e0]
    clear e0
    have hcb : (c != 0) = true := by simpa using hc
    clear hc
    go_enter Tryz.func108, Tryz.ntmps108
    go_wp2_with fail
    refine (HOF.out _).mono ?_
    rintro e w1 ⟨⟨v, rfl, n1⟩, hx1⟩
    obtain ⟨a1, c1, a2, c2, rfl⟩ := n1.shape
    have B1 := Lib.hid (B0.out.ext hx1); have X1 := Lib.hid (X0.out.trans hx1)
    clear n1 hx1
    obtain ⟨s1, l1, l2⟩ := r
    dsimp only
    have c0 := B1.out.cell; have f0 := B1.out.free; have l0 := B1.out.lt
    go_wp2_with fail
    refine bodyPost_ret (v := .agg #[.bool true, .slice none 0 0, .slice none 0 0]) (by simp only [results, Tryz.results108]; go_simp) rfl ⟨⟨_, rfl, _, _, rfl, NewV.nil _ _, NewV.nil _ _⟩, ?_⟩
    have := X1.out; (repeat (first | (with_reducible exact Ext.refl _) | (with_reducible assumption) | (with_reducible refine Ext.alloc ?_ _) | ((with_reducible refine Ext.setp ?_ ?_); focus (dsimp only; omega)) | (with_reducible refine Ext.drew ?_) | (with_reducible refine Ext.drewN ?_ _) | (with_reducible refine Ext.trans ?_ (by assumption))))
end Go.Proofs.YtbnalhmcbolngaaGreat
