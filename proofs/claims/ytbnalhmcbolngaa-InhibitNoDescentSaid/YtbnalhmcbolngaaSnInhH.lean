/- Part of the proof of nodL_holds: what the row needs of InhH. Conditions: as each theorem states. -/
import Derived.Test.YtbnalhmcbolngaaSnInhE
namespace Go.Proofs.Ytbnalhmcbolngaa
set_option linter.unusedSimpArgs false
set_option linter.unusedVariables false
open Go.RowKit
set_option maxHeartbeats 1000000 in
theorem weakP_k (de dl se sl ae al r : Int) (bd bs ba : Bool) (s rt : Int) (kp : Bool) (w : World) (H : Hid (chk de dl se sl ae al r = 0)) (h : 2 < s) :
    Calls Try.prog 53 #[.agg #[.int .i64 de, .int .i64 dl, .int .i64 se, .int .i64 sl, .int .i64 ae, .int .i64 al, .int .i64 r], .agg #[.bool bd, .bool bs, .bool ba], .agg #[.int .u8 s, .int .i64 rt, .bool kp]] w fun en w' => en = .returned (.tuple #[.agg #[.int .u8 0, .int .i64 0, .bool false], .int .i64 6]) ∧ Ext w w' := by
  go_enter Try.func53, Try.ntmps53
  go_wp2_with fail
  refine (check_any _ _ _ _ _ _ _ _).mono ?_
  rintro e w1 ⟨rfl, hx1⟩; have hz1 := hx1.size; (try simp only [World.size_alloc, World.size_setCell, World.size_drew, size_drewN] at hz1); obtain ⟨hc1, hf1⟩ := hx1.old (B := w.heap.size) (by (try simp only [World.size_alloc, World.size_setCell, World.size_drew, size_drewN]); omega); have hs0 : w.heap.size < w1.heap.size := (by omega); have hl0 : w.heap.size ≤ w1.heap.size := (by omega); have hm0 : w.heap.size ≤ w1.heap.size + 1 := (by omega); obtain ⟨hcb0, hfb0⟩ := hx1.block_at (b := w.heap.size) (by (try simp only [World.size_alloc, World.size_setCell, World.size_drew, size_drewN]); omega); have hs1 : w.heap.size + 1 < w1.heap.size := (by omega); have hl1 : w.heap.size + 1 ≤ w1.heap.size := (by omega); have hm1 : w.heap.size + 1 ≤ w1.heap.size + 1 := (by omega); obtain ⟨hcb1, hfb1⟩ := hx1.block_at (b := w.heap.size + 1) (by (try simp only [World.size_alloc, World.size_setCell, World.size_drew, size_drewN]); omega); have hs2 : w.heap.size + 1 + 1 < w1.heap.size := (by omega); have hl2 : w.heap.size + 1 + 1 ≤ w1.heap.size := (by omega); have hm2 : w.heap.size + 1 + 1 ≤ w1.heap.size + 1 := (by omega); obtain ⟨hcb2, hfb2⟩ := hx1.block_at (b := w.heap.size + 1 + 1) (by (try simp only [World.size_alloc, World.size_setCell, World.size_drew, size_drewN]); omega); have hs3 : w.heap.size + 1 + 1 + 1 < w1.heap.size := (by omega); have hl3 : w.heap.size + 1 + 1 + 1 ≤ w1.heap.size := (by omega); have hm3 : w.heap.size + 1 + 1 + 1 ≤ w1.heap.size + 1 := (by omega); obtain ⟨hcb3, hfb3⟩ := hx1.block_at (b := w.heap.size + 1 + 1 + 1) (by (try simp only [World.size_alloc, World.size_setCell, World.size_drew, size_drewN]); omega)
  rw [H.out]
  go_wp2_with fail
  all_goals (refine bodyPost_ret (v := (.tuple #[.agg #[.int .u8 0, .int .i64 0, .bool false], .int .i64 6])) ?_ rfl ⟨rfl, ?_⟩)
  all_goals first
    | (simp only [results, Try.results53]; go_simp; done)
    | (repeat (first | (with_reducible exact Ext.refl _) | (with_reducible assumption) | (with_reducible refine Ext.alloc ?_ _) | ((with_reducible refine Ext.setp ?_ ?_); focus (dsimp only; omega)) | (with_reducible refine Ext.drew ?_) | (with_reducible refine Ext.drewN ?_ _) | (with_reducible refine Ext.trans ?_ (by assumption))))
set_option maxHeartbeats 1000000 in
theorem weakP_r (de dl se sl ae al r : Int) (bd bs ba : Bool) (s rt : Int) (kp : Bool) (w : World) (H : Hid (chk de dl se sl ae al r = 0)) (h : s ≤ 2) (h2 : rt < -100 ∨ 100 < rt) :
    Calls Try.prog 53 #[.agg #[.int .i64 de, .int .i64 dl, .int .i64 se, .int .i64 sl, .int .i64 ae, .int .i64 al, .int .i64 r], .agg #[.bool bd, .bool bs, .bool ba], .agg #[.int .u8 s, .int .i64 rt, .bool kp]] w fun en w' => en = .returned (.tuple #[.agg #[.int .u8 0, .int .i64 0, .bool false], .int .i64 1]) ∧ Ext w w' := by
  go_enter Try.func53, Try.ntmps53
  go_wp2_with fail
  refine (check_any _ _ _ _ _ _ _ _).mono ?_
  rintro e w1 ⟨rfl, hx1⟩; have hz1 := hx1.size; (try simp only [World.size_alloc, World.size_setCell, World.size_drew, size_drewN] at hz1); obtain ⟨hc1, hf1⟩ := hx1.old (B := w.heap.size) (by (try simp only [World.size_alloc, World.size_setCell, World.size_drew, size_drewN]); omega); have hs0 : w.heap.size < w1.heap.size := (by omega); have hl0 : w.heap.size ≤ w1.heap.size := (by omega); have hm0 : w.heap.size ≤ w1.heap.size + 1 := (by omega); obtain ⟨hcb0, hfb0⟩ := hx1.block_at (b := w.heap.size) (by (try simp only [World.size_alloc, World.size_setCell, World.size_drew, size_drewN]); omega); have hs1 : w.heap.size + 1 < w1.heap.size := (by omega); have hl1 : w.heap.size + 1 ≤ w1.heap.size := (by omega); have hm1 : w.heap.size + 1 ≤ w1.heap.size + 1 := (by omega); obtain ⟨hcb1, hfb1⟩ := hx1.block_at (b := w.heap.size + 1) (by (try simp only [World.size_alloc, World.size_setCell, World.size_drew, size_drewN]); omega); have hs2 : w.heap.size + 1 + 1 < w1.heap.size := (by omega); have hl2 : w.heap.size + 1 + 1 ≤ w1.heap.size := (by omega); have hm2 : w.heap.size + 1 + 1 ≤ w1.heap.size + 1 := (by omega); obtain ⟨hcb2, hfb2⟩ := hx1.block_at (b := w.heap.size + 1 + 1) (by (try simp only [World.size_alloc, World.size_setCell, World.size_drew, size_drewN]); omega); have hs3 : w.heap.size + 1 + 1 + 1 < w1.heap.size := (by omega); have hl3 : w.heap.size + 1 + 1 + 1 ≤ w1.heap.size := (by omega); have hm3 : w.heap.size + 1 + 1 + 1 ≤ w1.heap.size + 1 := (by omega); obtain ⟨hcb3, hfb3⟩ := hx1.block_at (b := w.heap.size + 1 + 1 + 1) (by (try simp only [World.size_alloc, World.size_setCell, World.size_drew, size_drewN]); omega)
  rw [H.out]
  go_wp2_with fail
  all_goals (refine bodyPost_ret (v := (.tuple #[.agg #[.int .u8 0, .int .i64 0, .bool false], .int .i64 1])) ?_ rfl ⟨rfl, ?_⟩)
  all_goals first
    | (simp only [results, Try.results53]; go_simp; done)
    | (repeat (first | (with_reducible exact Ext.refl _) | (with_reducible assumption) | (with_reducible refine Ext.alloc ?_ _) | ((with_reducible refine Ext.setp ?_ ?_); focus (dsimp only; omega)) | (with_reducible refine Ext.drew ?_) | (with_reducible refine Ext.drewN ?_ _) | (with_reducible refine Ext.trans ?_ (by assumption))))
set_option maxHeartbeats 1000000 in
theorem weakP_a (de dl se sl ae al r : Int) (bd bs : Bool) (s rt : Int) (kp : Bool) (w : World) (H : Hid (chk de dl se sl ae al r = 0)) (h : s ≤ 2) (h2 : -100 ≤ rt) (h3 : rt ≤ 100) :
    Calls Try.prog 53 #[.agg #[.int .i64 de, .int .i64 dl, .int .i64 se, .int .i64 sl, .int .i64 ae, .int .i64 al, .int .i64 r], .agg #[.bool bd, .bool bs, .bool true], .agg #[.int .u8 s, .int .i64 rt, .bool kp]] w fun en w' => en = .returned (.tuple #[.agg #[.int .u8 0, .int .i64 0, .bool false], .int .i64 0]) ∧ Ext w w' := by
  go_enter Try.func53, Try.ntmps53
  go_wp2_with fail
  refine (check_any _ _ _ _ _ _ _ _).mono ?_
  rintro e w1 ⟨rfl, hx1⟩; have hz1 := hx1.size; (try simp only [World.size_alloc, World.size_setCell, World.size_drew, size_drewN] at hz1); obtain ⟨hc1, hf1⟩ := hx1.old (B := w.heap.size) (by (try simp only [World.size_alloc, World.size_setCell, World.size_drew, size_drewN]); omega); have hs0 : w.heap.size < w1.heap.size := (by omega); have hl0 : w.heap.size ≤ w1.heap.size := (by omega); have hm0 : w.heap.size ≤ w1.heap.size + 1 := (by omega); obtain ⟨hcb0, hfb0⟩ := hx1.block_at (b := w.heap.size) (by (try simp only [World.size_alloc, World.size_setCell, World.size_drew, size_drewN]); omega); have hs1 : w.heap.size + 1 < w1.heap.size := (by omega); have hl1 : w.heap.size + 1 ≤ w1.heap.size := (by omega); have hm1 : w.heap.size + 1 ≤ w1.heap.size + 1 := (by omega); obtain ⟨hcb1, hfb1⟩ := hx1.block_at (b := w.heap.size + 1) (by (try simp only [World.size_alloc, World.size_setCell, World.size_drew, size_drewN]); omega); have hs2 : w.heap.size + 1 + 1 < w1.heap.size := (by omega); have hl2 : w.heap.size + 1 + 1 ≤ w1.heap.size := (by omega); have hm2 : w.heap.size + 1 + 1 ≤ w1.heap.size + 1 := (by omega); obtain ⟨hcb2, hfb2⟩ := hx1.block_at (b := w.heap.size + 1 + 1) (by (try simp only [World.size_alloc, World.size_setCell, World.size_drew, size_drewN]); omega); have hs3 : w.heap.size + 1 + 1 + 1 < w1.heap.size := (by omega); have hl3 : w.heap.size + 1 + 1 + 1 ≤ w1.heap.size := (by omega); have hm3 : w.heap.size + 1 + 1 + 1 ≤ w1.heap.size + 1 := (by omega); obtain ⟨hcb3, hfb3⟩ := hx1.block_at (b := w.heap.size + 1 + 1 + 1) (by (try simp only [World.size_alloc, World.size_setCell, World.size_drew, size_drewN]); omega)
  rw [H.out]
  go_wp2_with fail
  all_goals (refine bodyPost_ret (v := (.tuple #[.agg #[.int .u8 0, .int .i64 0, .bool false], .int .i64 0])) ?_ rfl ⟨rfl, ?_⟩)
  all_goals first
    | (simp only [results, Try.results53]; go_simp; done)
    | (repeat (first | (with_reducible exact Ext.refl _) | (with_reducible assumption) | (with_reducible refine Ext.alloc ?_ _) | ((with_reducible refine Ext.setp ?_ ?_); focus (dsimp only; omega)) | (with_reducible refine Ext.drew ?_) | (with_reducible refine Ext.drewN ?_ _) | (with_reducible refine Ext.trans ?_ (by assumption))))
set_option maxHeartbeats 1000000 in
theorem weakP_s (de dl se sl ae al r : Int) (bd bs : Bool) (s rt : Int) (kp : Bool) (w : World) (H : Hid (chk de dl se sl ae al r = 0)) (h : s ≤ 2) (h2 : -100 ≤ rt) (h3 : rt ≤ 100) (h4 : (s != 2) = true) :
    Calls Try.prog 53 #[.agg #[.int .i64 de, .int .i64 dl, .int .i64 se, .int .i64 sl, .int .i64 ae, .int .i64 al, .int .i64 r], .agg #[.bool bd, .bool bs, .bool false], .agg #[.int .u8 s, .int .i64 rt, .bool kp]] w fun en w' => en = .returned (.tuple #[.agg #[.int .u8 s, .int .i64 rt, .bool kp], .int .i64 0]) ∧ Ext w w' := by
  go_enter Try.func53, Try.ntmps53
  go_wp2_with fail
  refine (check_any _ _ _ _ _ _ _ _).mono ?_
  rintro e w1 ⟨rfl, hx1⟩; have hz1 := hx1.size; (try simp only [World.size_alloc, World.size_setCell, World.size_drew, size_drewN] at hz1); obtain ⟨hc1, hf1⟩ := hx1.old (B := w.heap.size) (by (try simp only [World.size_alloc, World.size_setCell, World.size_drew, size_drewN]); omega); have hs0 : w.heap.size < w1.heap.size := (by omega); have hl0 : w.heap.size ≤ w1.heap.size := (by omega); have hm0 : w.heap.size ≤ w1.heap.size + 1 := (by omega); obtain ⟨hcb0, hfb0⟩ := hx1.block_at (b := w.heap.size) (by (try simp only [World.size_alloc, World.size_setCell, World.size_drew, size_drewN]); omega); have hs1 : w.heap.size + 1 < w1.heap.size := (by omega); have hl1 : w.heap.size + 1 ≤ w1.heap.size := (by omega); have hm1 : w.heap.size + 1 ≤ w1.heap.size + 1 := (by omega); obtain ⟨hcb1, hfb1⟩ := hx1.block_at (b := w.heap.size + 1) (by (try simp only [World.size_alloc, World.size_setCell, World.size_drew, size_drewN]); omega); have hs2 : w.heap.size + 1 + 1 < w1.heap.size := (by omega); have hl2 : w.heap.size + 1 + 1 ≤ w1.heap.size := (by omega); have hm2 : w.heap.size + 1 + 1 ≤ w1.heap.size + 1 := (by omega); obtain ⟨hcb2, hfb2⟩ := hx1.block_at (b := w.heap.size + 1 + 1) (by (try simp only [World.size_alloc, World.size_setCell, World.size_drew, size_drewN]); omega); have hs3 : w.heap.size + 1 + 1 + 1 < w1.heap.size := (by omega); have hl3 : w.heap.size + 1 + 1 + 1 ≤ w1.heap.size := (by omega); have hm3 : w.heap.size + 1 + 1 + 1 ≤ w1.heap.size + 1 := (by omega); obtain ⟨hcb3, hfb3⟩ := hx1.block_at (b := w.heap.size + 1 + 1 + 1) (by (try simp only [World.size_alloc, World.size_setCell, World.size_drew, size_drewN]); omega)
  rw [H.out]
  go_wp2_with fail
  all_goals (refine bodyPost_ret (v := (.tuple #[.agg #[.int .u8 s, .int .i64 rt, .bool kp], .int .i64 0])) ?_ rfl ⟨rfl, ?_⟩)
  all_goals first
    | (simp only [results, Try.results53]; go_simp; done)
    | (repeat (first | (with_reducible exact Ext.refl _) | (with_reducible assumption) | (with_reducible refine Ext.alloc ?_ _) | ((with_reducible refine Ext.setp ?_ ?_); focus (dsimp only; omega)) | (with_reducible refine Ext.drew ?_) | (with_reducible refine Ext.drewN ?_ _) | (with_reducible refine Ext.trans ?_ (by assumption))))
set_option maxHeartbeats 1000000 in
theorem weakP_t (de dl se sl ae al r : Int) (bd bs : Bool) (rt : Int) (kp : Bool) (w : World) (H : Hid (chk de dl se sl ae al r = 0)) (h2 : -100 ≤ rt) (h3 : rt ≤ 0) :
    Calls Try.prog 53 #[.agg #[.int .i64 de, .int .i64 dl, .int .i64 se, .int .i64 sl, .int .i64 ae, .int .i64 al, .int .i64 r], .agg #[.bool bd, .bool bs, .bool false], .agg #[.int .u8 2, .int .i64 rt, .bool kp]] w fun en w' => en = .returned (.tuple #[.agg #[.int .u8 2, .int .i64 rt, .bool kp], .int .i64 0]) ∧ Ext w w' := by
  go_enter Try.func53, Try.ntmps53
  go_wp2_with fail
  refine (check_any _ _ _ _ _ _ _ _).mono ?_
  rintro e w1 ⟨rfl, hx1⟩; have hz1 := hx1.size; (try simp only [World.size_alloc, World.size_setCell, World.size_drew, size_drewN] at hz1); obtain ⟨hc1, hf1⟩ := hx1.old (B := w.heap.size) (by (try simp only [World.size_alloc, World.size_setCell, World.size_drew, size_drewN]); omega); have hs0 : w.heap.size < w1.heap.size := (by omega); have hl0 : w.heap.size ≤ w1.heap.size := (by omega); have hm0 : w.heap.size ≤ w1.heap.size + 1 := (by omega); obtain ⟨hcb0, hfb0⟩ := hx1.block_at (b := w.heap.size) (by (try simp only [World.size_alloc, World.size_setCell, World.size_drew, size_drewN]); omega); have hs1 : w.heap.size + 1 < w1.heap.size := (by omega); have hl1 : w.heap.size + 1 ≤ w1.heap.size := (by omega); have hm1 : w.heap.size + 1 ≤ w1.heap.size + 1 := (by omega); obtain ⟨hcb1, hfb1⟩ := hx1.block_at (b := w.heap.size + 1) (by (try simp only [World.size_alloc, World.size_setCell, World.size_drew, size_drewN]); omega); have hs2 : w.heap.size + 1 + 1 < w1.heap.size := (by omega); have hl2 : w.heap.size + 1 + 1 ≤ w1.heap.size := (by omega); have hm2 : w.heap.size + 1 + 1 ≤ w1.heap.size + 1 := (by omega); obtain ⟨hcb2, hfb2⟩ := hx1.block_at (b := w.heap.size + 1 + 1) (by (try simp only [World.size_alloc, World.size_setCell, World.size_drew, size_drewN]); omega); have hs3 : w.heap.size + 1 + 1 + 1 < w1.heap.size := (by omega); have hl3 : w.heap.size + 1 + 1 + 1 ≤ w1.heap.size := (by omega); have hm3 : w.heap.size + 1 + 1 + 1 ≤ w1.heap.size + 1 := (by omega); obtain ⟨hcb3, hfb3⟩ := hx1.block_at (b := w.heap.size + 1 + 1 + 1) (by (try simp only [World.size_alloc, World.size_setCell, World.size_drew, size_drewN]); omega)
  rw [H.out]
  go_wp2_with fail
  all_goals (refine bodyPost_ret (v := (.tuple #[.agg #[.int .u8 2, .int .i64 rt, .bool kp], .int .i64 0])) ?_ rfl ⟨rfl, ?_⟩)
  all_goals first
    | (simp only [results, Try.results53]; go_simp; done)
    | (repeat (first | (with_reducible exact Ext.refl _) | (with_reducible assumption) | (with_reducible refine Ext.alloc ?_ _) | ((with_reducible refine Ext.setp ?_ ?_); focus (dsimp only; omega)) | (with_reducible refine Ext.drew ?_) | (with_reducible refine Ext.drewN ?_ _) | (with_reducible refine Ext.trans ?_ (by assumption))))
set_option maxHeartbeats 1000000 in
theorem weakP_d (de dl se sl ae al r : Int) (bs : Bool) (rt : Int) (kp : Bool) (w : World) (H : Hid (chk de dl se sl ae al r = 0)) (h2 : 0 < rt) (h3 : rt ≤ 100) :
    Calls Try.prog 53 #[.agg #[.int .i64 de, .int .i64 dl, .int .i64 se, .int .i64 sl, .int .i64 ae, .int .i64 al, .int .i64 r], .agg #[.bool true, .bool bs, .bool false], .agg #[.int .u8 2, .int .i64 rt, .bool kp]] w fun en w' => en = .returned (.tuple #[.agg #[.int .u8 2, .int .i64 0, .bool true], .int .i64 0]) ∧ Ext w w' := by
  have q0 : -100 ≤ rt := by omega
  go_enter Try.func53, Try.ntmps53
  go_wp2_with fail
  refine (check_any _ _ _ _ _ _ _ _).mono ?_
  rintro e w1 ⟨rfl, hx1⟩; have hz1 := hx1.size; (try simp only [World.size_alloc, World.size_setCell, World.size_drew, size_drewN] at hz1); obtain ⟨hc1, hf1⟩ := hx1.old (B := w.heap.size) (by (try simp only [World.size_alloc, World.size_setCell, World.size_drew, size_drewN]); omega); have hs0 : w.heap.size < w1.heap.size := (by omega); have hl0 : w.heap.size ≤ w1.heap.size := (by omega); have hm0 : w.heap.size ≤ w1.heap.size + 1 := (by omega); obtain ⟨hcb0, hfb0⟩ := hx1.block_at (b := w.heap.size) (by (try simp only [World.size_alloc, World.size_setCell, World.size_drew, size_drewN]); omega); have hs1 : w.heap.size + 1 < w1.heap.size := (by omega); have hl1 : w.heap.size + 1 ≤ w1.heap.size := (by omega); have hm1 : w.heap.size + 1 ≤ w1.heap.size + 1 := (by omega); obtain ⟨hcb1, hfb1⟩ := hx1.block_at (b := w.heap.size + 1) (by (try simp only [World.size_alloc, World.size_setCell, World.size_drew, size_drewN]); omega); have hs2 : w.heap.size + 1 + 1 < w1.heap.size := (by omega); have hl2 : w.heap.size + 1 + 1 ≤ w1.heap.size := (by omega); have hm2 : w.heap.size + 1 + 1 ≤ w1.heap.size + 1 := (by omega); obtain ⟨hcb2, hfb2⟩ := hx1.block_at (b := w.heap.size + 1 + 1) (by (try simp only [World.size_alloc, World.size_setCell, World.size_drew, size_drewN]); omega); have hs3 : w.heap.size + 1 + 1 + 1 < w1.heap.size := (by omega); have hl3 : w.heap.size + 1 + 1 + 1 ≤ w1.heap.size := (by omega); have hm3 : w.heap.size + 1 + 1 + 1 ≤ w1.heap.size + 1 := (by omega); obtain ⟨hcb3, hfb3⟩ := hx1.block_at (b := w.heap.size + 1 + 1 + 1) (by (try simp only [World.size_alloc, World.size_setCell, World.size_drew, size_drewN]); omega)
  rw [H.out]
  go_wp2_with fail
  all_goals (refine bodyPost_ret (v := (.tuple #[.agg #[.int .u8 2, .int .i64 0, .bool true], .int .i64 0])) ?_ rfl ⟨rfl, ?_⟩)
  all_goals first
    | (simp only [results, Try.results53]; go_simp; done)
    | (repeat (first | (with_reducible exact Ext.refl _) | (with_reducible assumption) | (with_reducible refine Ext.alloc ?_ _) | ((with_reducible refine Ext.setp ?_ ?_); focus (dsimp only; omega)) | (with_reducible refine Ext.drew ?_) | (with_reducible refine Ext.drewN ?_ _) | (with_reducible refine Ext.trans ?_ (by assumption))))
set_option maxHeartbeats 1000000 in
theorem weakP_f (de dl se sl ae al r : Int) (rt : Int) (w : World) (H : Hid (chk de dl se sl ae al r = 0)) (h2 : 0 < rt) (h3 : rt ≤ 100) (h4 : r < rt) :
    Calls Try.prog 53 #[.agg #[.int .i64 de, .int .i64 dl, .int .i64 se, .int .i64 sl, .int .i64 ae, .int .i64 al, .int .i64 r], .agg #[.bool false, .bool true, .bool false], .agg #[.int .u8 2, .int .i64 rt, .bool true]] w fun en w' => en = .returned (.tuple #[.agg #[.int .u8 2, .int .i64 r, .bool true], .int .i64 0]) ∧ Ext w w' := by
  have q0 : -100 ≤ rt := by omega
  go_enter Try.func53, Try.ntmps53
  go_wp2_with fail
  refine (check_any _ _ _ _ _ _ _ _).mono ?_
  rintro e w1 ⟨rfl, hx1⟩; have hz1 := hx1.size; (try simp only [World.size_alloc, World.size_setCell, World.size_drew, size_drewN] at hz1); obtain ⟨hc1, hf1⟩ := hx1.old (B := w.heap.size) (by (try simp only [World.size_alloc, World.size_setCell, World.size_drew, size_drewN]); omega); have hs0 : w.heap.size < w1.heap.size := (by omega); have hl0 : w.heap.size ≤ w1.heap.size := (by omega); have hm0 : w.heap.size ≤ w1.heap.size + 1 := (by omega); obtain ⟨hcb0, hfb0⟩ := hx1.block_at (b := w.heap.size) (by (try simp only [World.size_alloc, World.size_setCell, World.size_drew, size_drewN]); omega); have hs1 : w.heap.size + 1 < w1.heap.size := (by omega); have hl1 : w.heap.size + 1 ≤ w1.heap.size := (by omega); have hm1 : w.heap.size + 1 ≤ w1.heap.size + 1 := (by omega); obtain ⟨hcb1, hfb1⟩ := hx1.block_at (b := w.heap.size + 1) (by (try simp only [World.size_alloc, World.size_setCell, World.size_drew, size_drewN]); omega); have hs2 : w.heap.size + 1 + 1 < w1.heap.size := (by omega); have hl2 : w.heap.size + 1 + 1 ≤ w1.heap.size := (by omega); have hm2 : w.heap.size + 1 + 1 ≤ w1.heap.size + 1 := (by omega); obtain ⟨hcb2, hfb2⟩ := hx1.block_at (b := w.heap.size + 1 + 1) (by (try simp only [World.size_alloc, World.size_setCell, World.size_drew, size_drewN]); omega); have hs3 : w.heap.size + 1 + 1 + 1 < w1.heap.size := (by omega); have hl3 : w.heap.size + 1 + 1 + 1 ≤ w1.heap.size := (by omega); have hm3 : w.heap.size + 1 + 1 + 1 ≤ w1.heap.size + 1 := (by omega); obtain ⟨hcb3, hfb3⟩ := hx1.block_at (b := w.heap.size + 1 + 1 + 1) (by (try simp only [World.size_alloc, World.size_setCell, World.size_drew, size_drewN]); omega)
  rw [H.out]
  go_wp2_with fail
  all_goals (refine bodyPost_ret (v := (.tuple #[.agg #[.int .u8 2, .int .i64 r, .bool true], .int .i64 0])) ?_ rfl ⟨rfl, ?_⟩)
  all_goals first
    | (simp only [results, Try.results53]; go_simp; done)
    | (repeat (first | (with_reducible exact Ext.refl _) | (with_reducible assumption) | (with_reducible refine Ext.alloc ?_ _) | ((with_reducible refine Ext.setp ?_ ?_); focus (dsimp only; omega)) | (with_reducible refine Ext.drew ?_) | (with_reducible refine Ext.drewN ?_ _) | (with_reducible refine Ext.trans ?_ (by assumption))))
set_option maxHeartbeats 1000000 in
theorem weakP_g (de dl se sl ae al r : Int) (rt : Int) (w : World) (H : Hid (chk de dl se sl ae al r = 0)) (h2 : 0 < rt) (h3 : rt ≤ 100) (h4 : r < rt) :
    Calls Try.prog 53 #[.agg #[.int .i64 de, .int .i64 dl, .int .i64 se, .int .i64 sl, .int .i64 ae, .int .i64 al, .int .i64 r], .agg #[.bool false, .bool true, .bool false], .agg #[.int .u8 2, .int .i64 rt, .bool false]] w fun en w' => en = .returned (.tuple #[.agg #[.int .u8 2, .int .i64 r, .bool (r == 0)], .int .i64 0]) ∧ Ext w w' := by
  have q0 : -100 ≤ rt := by omega
  go_enter Try.func53, Try.ntmps53
  go_wp2_with fail
  refine (check_any _ _ _ _ _ _ _ _).mono ?_
  rintro e w1 ⟨rfl, hx1⟩; have hz1 := hx1.size; (try simp only [World.size_alloc, World.size_setCell, World.size_drew, size_drewN] at hz1); obtain ⟨hc1, hf1⟩ := hx1.old (B := w.heap.size) (by (try simp only [World.size_alloc, World.size_setCell, World.size_drew, size_drewN]); omega); have hs0 : w.heap.size < w1.heap.size := (by omega); have hl0 : w.heap.size ≤ w1.heap.size := (by omega); have hm0 : w.heap.size ≤ w1.heap.size + 1 := (by omega); obtain ⟨hcb0, hfb0⟩ := hx1.block_at (b := w.heap.size) (by (try simp only [World.size_alloc, World.size_setCell, World.size_drew, size_drewN]); omega); have hs1 : w.heap.size + 1 < w1.heap.size := (by omega); have hl1 : w.heap.size + 1 ≤ w1.heap.size := (by omega); have hm1 : w.heap.size + 1 ≤ w1.heap.size + 1 := (by omega); obtain ⟨hcb1, hfb1⟩ := hx1.block_at (b := w.heap.size + 1) (by (try simp only [World.size_alloc, World.size_setCell, World.size_drew, size_drewN]); omega); have hs2 : w.heap.size + 1 + 1 < w1.heap.size := (by omega); have hl2 : w.heap.size + 1 + 1 ≤ w1.heap.size := (by omega); have hm2 : w.heap.size + 1 + 1 ≤ w1.heap.size + 1 := (by omega); obtain ⟨hcb2, hfb2⟩ := hx1.block_at (b := w.heap.size + 1 + 1) (by (try simp only [World.size_alloc, World.size_setCell, World.size_drew, size_drewN]); omega); have hs3 : w.heap.size + 1 + 1 + 1 < w1.heap.size := (by omega); have hl3 : w.heap.size + 1 + 1 + 1 ≤ w1.heap.size := (by omega); have hm3 : w.heap.size + 1 + 1 + 1 ≤ w1.heap.size + 1 := (by omega); obtain ⟨hcb3, hfb3⟩ := hx1.block_at (b := w.heap.size + 1 + 1 + 1) (by (try simp only [World.size_alloc, World.size_setCell, World.size_drew, size_drewN]); omega)
  rw [H.out]
  go_wp2_with fail
  all_goals (refine bodyPost_ret (v := (.tuple #[.agg #[.int .u8 2, .int .i64 r, .bool (r == 0)], .int .i64 0])) ?_ rfl ⟨rfl, ?_⟩)
  all_goals first
    | (simp only [results, Try.results53]; go_simp; done)
    | (repeat (first | (with_reducible exact Ext.refl _) | (with_reducible assumption) | (with_reducible refine Ext.alloc ?_ _) | ((with_reducible refine Ext.setp ?_ ?_); focus (dsimp only; omega)) | (with_reducible refine Ext.drew ?_) | (with_reducible refine Ext.drewN ?_ _) | (with_reducible refine Ext.trans ?_ (by assumption))))
set_option maxHeartbeats 1000000 in
theorem weakP_h (de dl se sl ae al r : Int) (rt : Int) (kp : Bool) (w : World) (H : Hid (chk de dl se sl ae al r = 0)) (h2 : 0 < rt) (h3 : rt ≤ 100) (h4 : rt ≤ r) :
    Calls Try.prog 53 #[.agg #[.int .i64 de, .int .i64 dl, .int .i64 se, .int .i64 sl, .int .i64 ae, .int .i64 al, .int .i64 r], .agg #[.bool false, .bool true, .bool false], .agg #[.int .u8 2, .int .i64 rt, .bool kp]] w fun en w' => en = .returned (.tuple #[.agg #[.int .u8 2, .int .i64 rt, .bool kp], .int .i64 0]) ∧ Ext w w' := by
  have q0 : -100 ≤ rt := by omega
  go_enter Try.func53, Try.ntmps53
  go_wp2_with fail
  refine (check_any _ _ _ _ _ _ _ _).mono ?_
  rintro e w1 ⟨rfl, hx1⟩; have hz1 := hx1.size; (try simp only [World.size_alloc, World.size_setCell, World.size_drew, size_drewN] at hz1); obtain ⟨hc1, hf1⟩ := hx1.old (B := w.heap.size) (by (try simp only [World.size_alloc, World.size_setCell, World.size_drew, size_drewN]); omega); have hs0 : w.heap.size < w1.heap.size := (by omega); have hl0 : w.heap.size ≤ w1.heap.size := (by omega); have hm0 : w.heap.size ≤ w1.heap.size + 1 := (by omega); obtain ⟨hcb0, hfb0⟩ := hx1.block_at (b := w.heap.size) (by (try simp only [World.size_alloc, World.size_setCell, World.size_drew, size_drewN]); omega); have hs1 : w.heap.size + 1 < w1.heap.size := (by omega); have hl1 : w.heap.size + 1 ≤ w1.heap.size := (by omega); have hm1 : w.heap.size + 1 ≤ w1.heap.size + 1 := (by omega); obtain ⟨hcb1, hfb1⟩ := hx1.block_at (b := w.heap.size + 1) (by (try simp only [World.size_alloc, World.size_setCell, World.size_drew, size_drewN]); omega); have hs2 : w.heap.size + 1 + 1 < w1.heap.size := (by omega); have hl2 : w.heap.size + 1 + 1 ≤ w1.heap.size := (by omega); have hm2 : w.heap.size + 1 + 1 ≤ w1.heap.size + 1 := (by omega); obtain ⟨hcb2, hfb2⟩ := hx1.block_at (b := w.heap.size + 1 + 1) (by (try simp only [World.size_alloc, World.size_setCell, World.size_drew, size_drewN]); omega); have hs3 : w.heap.size + 1 + 1 + 1 < w1.heap.size := (by omega); have hl3 : w.heap.size + 1 + 1 + 1 ≤ w1.heap.size := (by omega); have hm3 : w.heap.size + 1 + 1 + 1 ≤ w1.heap.size + 1 := (by omega); obtain ⟨hcb3, hfb3⟩ := hx1.block_at (b := w.heap.size + 1 + 1 + 1) (by (try simp only [World.size_alloc, World.size_setCell, World.size_drew, size_drewN]); omega)
  rw [H.out]
  go_wp2_with fail
  all_goals (refine bodyPost_ret (v := (.tuple #[.agg #[.int .u8 2, .int .i64 rt, .bool kp], .int .i64 0])) ?_ rfl ⟨rfl, ?_⟩)
  all_goals first
    | (simp only [results, Try.results53]; go_simp; done)
    | (repeat (first | (with_reducible exact Ext.refl _) | (with_reducible assumption) | (with_reducible refine Ext.alloc ?_ _) | ((with_reducible refine Ext.setp ?_ ?_); focus (dsimp only; omega)) | (with_reducible refine Ext.drew ?_) | (with_reducible refine Ext.drewN ?_ _) | (with_reducible refine Ext.trans ?_ (by assumption))))
set_option maxHeartbeats 1000000 in
theorem weakP_i (de dl se sl ae al r : Int) (rt : Int) (kp : Bool) (w : World) (H : Hid (chk de dl se sl ae al r = 0)) (h2 : 0 < rt) (h3 : rt ≤ 100) :
    Calls Try.prog 53 #[.agg #[.int .i64 de, .int .i64 dl, .int .i64 se, .int .i64 sl, .int .i64 ae, .int .i64 al, .int .i64 r], .agg #[.bool false, .bool false, .bool false], .agg #[.int .u8 2, .int .i64 rt, .bool kp]] w fun en w' => en = .returned (.tuple #[.agg #[.int .u8 2, .int .i64 rt, .bool kp], .int .i64 0]) ∧ Ext w w' := by
  have q0 : -100 ≤ rt := by omega
  go_enter Try.func53, Try.ntmps53
  go_wp2_with fail
  refine (check_any _ _ _ _ _ _ _ _).mono ?_
  rintro e w1 ⟨rfl, hx1⟩; have hz1 := hx1.size; (try simp only [World.size_alloc, World.size_setCell, World.size_drew, size_drewN] at hz1); obtain ⟨hc1, hf1⟩ := hx1.old (B := w.heap.size) (by (try simp only [World.size_alloc, World.size_setCell, World.size_drew, size_drewN]); omega); have hs0 : w.heap.size < w1.heap.size := (by omega); have hl0 : w.heap.size ≤ w1.heap.size := (by omega); have hm0 : w.heap.size ≤ w1.heap.size + 1 := (by omega); obtain ⟨hcb0, hfb0⟩ := hx1.block_at (b := w.heap.size) (by (try simp only [World.size_alloc, World.size_setCell, World.size_drew, size_drewN]); omega); have hs1 : w.heap.size + 1 < w1.heap.size := (by omega); have hl1 : w.heap.size + 1 ≤ w1.heap.size := (by omega); have hm1 : w.heap.size + 1 ≤ w1.heap.size + 1 := (by omega); obtain ⟨hcb1, hfb1⟩ := hx1.block_at (b := w.heap.size + 1) (by (try simp only [World.size_alloc, World.size_setCell, World.size_drew, size_drewN]); omega); have hs2 : w.heap.size + 1 + 1 < w1.heap.size := (by omega); have hl2 : w.heap.size + 1 + 1 ≤ w1.heap.size := (by omega); have hm2 : w.heap.size + 1 + 1 ≤ w1.heap.size + 1 := (by omega); obtain ⟨hcb2, hfb2⟩ := hx1.block_at (b := w.heap.size + 1 + 1) (by (try simp only [World.size_alloc, World.size_setCell, World.size_drew, size_drewN]); omega); have hs3 : w.heap.size + 1 + 1 + 1 < w1.heap.size := (by omega); have hl3 : w.heap.size + 1 + 1 + 1 ≤ w1.heap.size := (by omega); have hm3 : w.heap.size + 1 + 1 + 1 ≤ w1.heap.size + 1 := (by omega); obtain ⟨hcb3, hfb3⟩ := hx1.block_at (b := w.heap.size + 1 + 1 + 1) (by (try simp only [World.size_alloc, World.size_setCell, World.size_drew, size_drewN]); omega)
  rw [H.out]
  go_wp2_with fail
  all_goals (refine bodyPost_ret (v := (.tuple #[.agg #[.int .u8 2, .int .i64 rt, .bool kp], .int .i64 0])) ?_ rfl ⟨rfl, ?_⟩)
  all_goals first
    | (simp only [results, Try.results53]; go_simp; done)
    | (repeat (first | (with_reducible exact Ext.refl _) | (with_reducible assumption) | (with_reducible refine Ext.alloc ?_ _) | ((with_reducible refine Ext.setp ?_ ?_); focus (dsimp only; omega)) | (with_reducible refine Ext.drew ?_) | (with_reducible refine Ext.drewN ?_ _) | (with_reducible refine Ext.trans ?_ (by assumption))))
set_option maxHeartbeats 2000000 in
theorem weak_any (de dl se sl ae al r : Int) (bd bs ba : Bool) (s rt : Int) (kp : Bool) (w : World) (hs0 : 0 ≤ s) :
    Calls Try.prog 53 #[.agg #[.int .i64 de, .int .i64 dl, .int .i64 se, .int .i64 sl, .int .i64 ae, .int .i64 al, .int .i64 r], .agg #[.bool bd, .bool bs, .bool ba], .agg #[.int .u8 s, .int .i64 rt, .bool kp]] w fun en w' =>
      en = .returned (.tuple #[.agg #[.int .u8 (weak (chk de dl se sl ae al r) r bd bs ba s rt kp).1, .int .i64 (weak (chk de dl se sl ae al r) r bd bs ba s rt kp).2.1, .bool (weak (chk de dl se sl ae al r) r bd bs ba s rt kp).2.2.1], .int .i64 (weak (chk de dl se sl ae al r) r bd bs ba s rt kp).2.2.2]) ∧ Ext w w' := by
  rcases chk_01 (de := de) (dl := dl) (se := se) (sl := sl) (ae := ae) (al := al) (r := r) with h | h
  · have H := Lib.hid h
    by_cases h1 : 2 < s
    · rw [weak_k h h1]; exact weakP_k _ _ _ _ _ _ _ _ _ _ _ _ _ _ H h1
    by_cases h2 : rt < -100 ∨ 100 < rt
    · rw [weak_r h (by omega) h2]; exact weakP_r _ _ _ _ _ _ _ _ _ _ _ _ _ _ H (by omega) h2
    cases ba
    · by_cases h3 : s = 2
      · subst h3
        by_cases h4 : rt ≤ 0
        · rw [weak_s h (by omega) (by omega) rfl (by omega)]; exact weakP_t _ _ _ _ _ _ _ _ _ _ _ _ H (by omega) h4
        cases bd
        · cases bs
          · rw [weak_g h rfl (by omega) rfl rfl (.inl rfl)]; exact weakP_i _ _ _ _ _ _ _ _ _ _ H (by omega) (by omega)
          · by_cases h5 : r < rt
            · rw [weak_f h rfl (by omega) rfl rfl rfl h5]
              cases kp
              · exact weakP_g _ _ _ _ _ _ _ _ _ H (by omega) (by omega) h5
              · exact weakP_f _ _ _ _ _ _ _ _ _ H (by omega) (by omega) h5
            · rw [weak_g h rfl (by omega) rfl rfl (.inr (by omega))]; exact weakP_h _ _ _ _ _ _ _ _ _ _ H (by omega) (by omega) (by omega)
        · rw [weak_d h rfl (by omega) rfl rfl]; exact weakP_d _ _ _ _ _ _ _ _ _ _ _ H (by omega) (by omega)
      · rw [weak_s h (by omega) (by omega) rfl (.inl h3)]; exact weakP_s _ _ _ _ _ _ _ _ _ _ _ _ _ H (by omega) (by omega) (by omega) (by simpa using h3)
    · rw [weak_a h (by omega) (by omega) rfl]; exact weakP_a _ _ _ _ _ _ _ _ _ _ _ _ _ H (by omega) (by omega) (by omega)
  · rw [weak_c h]
    have H := Lib.hid h; clear h
    go_enter Try.func53, Try.ntmps53
    go_wp2_with fail
    refine (check_any _ _ _ _ _ _ _ _).mono ?_
    rintro e w1 ⟨rfl, hx1⟩; have hz1 := hx1.size; (try simp only [World.size_alloc, World.size_setCell, World.size_drew, size_drewN] at hz1); obtain ⟨hc1, hf1⟩ := hx1.old (B := w.heap.size) (by (try simp only [World.size_alloc, World.size_setCell, World.size_drew, size_drewN]); omega); have hs0 : w.heap.size < w1.heap.size := (by omega); have hl0 : w.heap.size ≤ w1.heap.size := (by omega); have hm0 : w.heap.size ≤ w1.heap.size + 1 := (by omega); obtain ⟨hcb0, hfb0⟩ := hx1.block_at (b := w.heap.size) (by (try simp only [World.size_alloc, World.size_setCell, World.size_drew, size_drewN]); omega); have hs1 : w.heap.size + 1 < w1.heap.size := (by omega); have hl1 : w.heap.size + 1 ≤ w1.heap.size := (by omega); have hm1 : w.heap.size + 1 ≤ w1.heap.size + 1 := (by omega); obtain ⟨hcb1, hfb1⟩ := hx1.block_at (b := w.heap.size + 1) (by (try simp only [World.size_alloc, World.size_setCell, World.size_drew, size_drewN]); omega); have hs2 : w.heap.size + 1 + 1 < w1.heap.size := (by omega); have hl2 : w.heap.size + 1 + 1 ≤ w1.heap.size := (by omega); have hm2 : w.heap.size + 1 + 1 ≤ w1.heap.size + 1 := (by omega); obtain ⟨hcb2, hfb2⟩ := hx1.block_at (b := w.heap.size + 1 + 1) (by (try simp only [World.size_alloc, World.size_setCell, World.size_drew, size_drewN]); omega); have hs3 : w.heap.size + 1 + 1 + 1 < w1.heap.size := (by omega); have hl3 : w.heap.size + 1 + 1 + 1 ≤ w1.heap.size := (by omega); have hm3 : w.heap.size + 1 + 1 + 1 ≤ w1.heap.size + 1 := (by omega); obtain ⟨hcb3, hfb3⟩ := hx1.block_at (b := w.heap.size + 1 + 1 + 1) (by (try simp only [World.size_alloc, World.size_setCell, World.size_drew, size_drewN]); omega)
    rw [H.out]
    go_wp2_with fail
    refine bodyPost_ret ?_ rfl ⟨rfl, ?_⟩
    · (simp only [results, Try.results53]; go_simp)
    · (repeat (first | (with_reducible exact Ext.refl _) | (with_reducible assumption) | (with_reducible refine Ext.alloc ?_ _) | ((with_reducible refine Ext.setp ?_ ?_); focus (dsimp only; omega)) | (with_reducible refine Ext.drew ?_) | (with_reducible refine Ext.drewN ?_ _) | (with_reducible refine Ext.trans ?_ (by assumption))))
end Go.Proofs.Ytbnalhmcbolngaa
