/- Part of the proof of nodL_holds: what the row needs of InhE. Conditions: as each theorem states. -/
import Derived.Test.YtbnalhmcbolngaaSnInhD
namespace Go.Proofs.Ytbnalhmcbolngaa
set_option linter.unusedSimpArgs false
set_option linter.unusedVariables false
open Go.RowKit
def UpdRel (w : World) (de dl se sl ae al r : Int) (bd bs ba : Bool) (z : Int) (k : Nat) (wr : World) : Prop :=
  Ext w wr ∧ Blk wr w.heap.size #[.int .i64 de, .int .i64 dl, .int .i64 se, .int .i64 sl, .int .i64 ae, .int .i64 al, .int .i64 r] 61 ∧
  Blk wr (w.heap.size + 1) #[.bool (if 0 < k then flg de dl bd z else bd), .bool (if 1 < k then flg se sl bs z else bs), .bool (if 2 < k then flg ae al ba z else ba)] 78 ∧
  Blk wr (w.heap.size + 1 + 1) #[.bool false, .bool false, .bool false] 78
set_option maxHeartbeats 2000000 in
theorem update_any (de dl se sl ae al r : Int) (bd bs ba : Bool) (z : Int) (w : World) :
    Calls Try.prog 94 #[.agg #[.int .i64 de, .int .i64 dl, .int .i64 se, .int .i64 sl, .int .i64 ae, .int .i64 al, .int .i64 r], .agg #[.bool bd, .bool bs, .bool ba], .int .i64 z] w fun en w' =>
      en = .returned (.agg #[.bool (flg de dl bd z), .bool (flg se sl bs z), .bool (flg ae al ba z)]) ∧ Ext w w' := by
  have i0 := part0
  have i1 := part1
  have i2 := part2
  go_enter Try.func94, Try.ntmps94
  go_wp2_with (go_at_call 91; refine (parts_any _).mono ?_; rintro e w1 ⟨rfl, hx1⟩; have hz1 := hx1.size; (try simp only [World.size_alloc, World.size_setCell, World.size_drew, size_drewN] at hz1); obtain ⟨hc1, hf1⟩ := hx1.old (B := w.heap.size) (by (try simp only [World.size_alloc, World.size_setCell, World.size_drew, size_drewN]); omega); have hs0 : w.heap.size < w1.heap.size := (by omega); have hl0 : w.heap.size ≤ w1.heap.size := (by omega); have hm0 : w.heap.size ≤ w1.heap.size + 1 := (by omega); obtain ⟨hcb0, hfb0⟩ := hx1.block_at (b := w.heap.size) (by (try simp only [World.size_alloc, World.size_setCell, World.size_drew, size_drewN]); omega); have hs1 : w.heap.size + 1 < w1.heap.size := (by omega); have hl1 : w.heap.size + 1 ≤ w1.heap.size := (by omega); have hm1 : w.heap.size + 1 ≤ w1.heap.size + 1 := (by omega); obtain ⟨hcb1, hfb1⟩ := hx1.block_at (b := w.heap.size + 1) (by (try simp only [World.size_alloc, World.size_setCell, World.size_drew, size_drewN]); omega); have hs2 : w.heap.size + 1 + 1 < w1.heap.size := (by omega); have hl2 : w.heap.size + 1 + 1 ≤ w1.heap.size := (by omega); have hm2 : w.heap.size + 1 + 1 ≤ w1.heap.size + 1 := (by omega); obtain ⟨hcb2, hfb2⟩ := hx1.block_at (b := w.heap.size + 1 + 1) (by (try simp only [World.size_alloc, World.size_setCell, World.size_drew, size_drewN]); omega))
  have hR : UpdRel w de dl se sl ae al r bd bs ba z 0 w1 := by
    refine ⟨by (repeat (first | (with_reducible exact Ext.refl _) | (with_reducible assumption) | (with_reducible refine Ext.alloc ?_ _) | ((with_reducible refine Ext.setp ?_ ?_); focus (dsimp only; omega)) | (with_reducible refine Ext.drew ?_) | (with_reducible refine Ext.drewN ?_ _) | (with_reducible refine Ext.trans ?_ (by assumption)))), ?_, ?_, ?_⟩
    · exact ((((Blk.new w _ _).alloc _).alloc _).ext hx1)
    · have := ((Blk.new (w.alloc (.cells #[.int .i64 de, .int .i64 dl, .int .i64 se, .int .i64 sl, .int .i64 ae, .int .i64 al, .int .i64 r] 61)) #[.bool bd, .bool bs, .bool ba] 78).alloc _).ext hx1
      simpa using this
    · have := (Blk.new ((w.alloc (.cells #[.int .i64 de, .int .i64 dl, .int .i64 se, .int .i64 sl, .int .i64 ae, .int .i64 al, .int .i64 r] 61)).alloc (.cells #[.bool bd, .bool bs, .bool ba] 78)) #[.bool false, .bool false, .bool false] 78).ext hx1
      simpa using this
  have HR := Lib.hid hR
  clear hR hx1 hc1 hf1 hcb0 hfb0 hcb1 hfb1 hcb2 hfb2 hz1 hs0 hs1 hs2 hl0 hl1 hl2 hm0 hm1 hm2
  go_loopw [12] (fun i wr => ∃ k : Nat, k ≤ 3 ∧ i = .int .i64 k ∧ UpdRel w de dl se sl ae al r bd bs ba z k wr) (fun i _ => 3 - (intOf i).toNat)
  case atStart => exact ⟨0, by omega, rfl, HR.out⟩
  case round =>
    obtain ⟨k, hk, rfl, hext, hb0, hb1, hb2⟩ := hrel
    have HE := Lib.hid hext; clear hext
    have HB0 := Lib.hid hb0; have HB1 := Lib.hid hb1; have HB2 := Lib.hid hb2
    have c0 := hb0.cell; have c1 := hb1.cell; have c2 := hb2.cell
    have f1 := hb1.free; have f2 := hb2.free
    have l0 := hb0.lt; have l1 := hb1.lt; have l2 := hb2.lt
    clear hb0 hb1 hb2
    match k, hk with
    | 0, _ =>
      go_wp2_with fail
      (refine wp_region_quietE (by kernel_rfl) (by kernel_rfl) ?_; (repeat (go_big_quiet_step ((first | (go_at_call 114; exact quietE (parts1_any _ _)) | (go_at_call 115; exact quietE (parts2_any _ _)))))); refine wpQuiet_nil ?_; rintro w1 ⟨⟨_, hx1⟩, rfl⟩; (try dsimp only); have hz1 := hx1.size; (try simp only [World.size_alloc, World.size_setCell, World.size_drew, size_drewN] at hz1); obtain ⟨hc1, hf1⟩ := hx1.old (B := w.heap.size) (by (try simp only [World.size_alloc, World.size_setCell, World.size_drew, size_drewN]); omega); have hs0 : w.heap.size < w1.heap.size := (by omega); have hl0 : w.heap.size ≤ w1.heap.size := (by omega); have hm0 : w.heap.size ≤ w1.heap.size + 1 := (by omega); obtain ⟨hcb0, hfb0⟩ := hx1.block_at (b := w.heap.size) (by (try simp only [World.size_alloc, World.size_setCell, World.size_drew, size_drewN]); omega); have hs1 : w.heap.size + 1 < w1.heap.size := (by omega); have hl1 : w.heap.size + 1 ≤ w1.heap.size := (by omega); have hm1 : w.heap.size + 1 ≤ w1.heap.size + 1 := (by omega); obtain ⟨hcb1, hfb1⟩ := hx1.block_at (b := w.heap.size + 1) (by (try simp only [World.size_alloc, World.size_setCell, World.size_drew, size_drewN]); omega); have hs2 : w.heap.size + 1 + 1 < w1.heap.size := (by omega); have hl2 : w.heap.size + 1 + 1 ≤ w1.heap.size := (by omega); have hm2 : w.heap.size + 1 + 1 ≤ w1.heap.size + 1 := (by omega); obtain ⟨hcb2, hfb2⟩ := hx1.block_at (b := w.heap.size + 1 + 1) (by (try simp only [World.size_alloc, World.size_setCell, World.size_drew, size_drewN]); omega))
      have hE2 : Ext w w1 := (HE.out.alloc _).trans hx1
      have hB0 := (HB0.out.alloc (.cells #[fnV 114, fnV 115] 171)).ext hx1
      have hB1 := (HB1.out.alloc (.cells #[fnV 114, fnV 115] 171)).ext hx1
      have hB2 := (HB2.out.alloc (.cells #[fnV 114, fnV 115] 171)).ext hx1
      have GE := Lib.hid hE2; have G0 := Lib.hid hB0; have G1 := Lib.hid hB1; have G2 := Lib.hid hB2
      clear hE2 hB0 hB1 hB2
      go_wp2
      all_goals
        go_roundw
        case rel =>
          first
            | (have e := flg_lo (b := bd) (l := dl) (show z < de by omega)
               exact ⟨1, by omega, by go_num, GE.out.set (by dsimp only; omega) _, G0.out.setOther (by dsimp only; omega) _, by have := G1.out.set 0 (.bool true); simpa [e] using this, G2.out.setOther (by dsimp only; omega) _⟩)
            | (have e := flg_hi (b := bd) (l := dl) (show de ≤ z by omega) (by omega)
               exact ⟨1, by omega, by go_num, GE.out.set (by dsimp only; omega) _, G0.out.setOther (by dsimp only; omega) _, by have := G1.out.set 0 (.bool false); simpa [e] using this, G2.out.setOther (by dsimp only; omega) _⟩)
            | (have e := flg_mid (b := bd) (l := dl) (show de ≤ z by omega) (by omega)
               exact ⟨1, by omega, by go_num, GE.out, G0.out, by have := G1.out; simpa [e] using this, G2.out⟩)
        case measure => simp [intOf]
    | 1, _ =>
      go_wp2_with fail
      (refine wp_region_quietE (by kernel_rfl) (by kernel_rfl) ?_; (repeat (go_big_quiet_step ((first | (go_at_call 116; exact quietE (parts3_any _ _)) | (go_at_call 117; exact quietE (parts4_any _ _)))))); refine wpQuiet_nil ?_; rintro w1 ⟨⟨_, hx1⟩, rfl⟩; (try dsimp only); have hz1 := hx1.size; (try simp only [World.size_alloc, World.size_setCell, World.size_drew, size_drewN] at hz1); obtain ⟨hc1, hf1⟩ := hx1.old (B := w.heap.size) (by (try simp only [World.size_alloc, World.size_setCell, World.size_drew, size_drewN]); omega); have hs0 : w.heap.size < w1.heap.size := (by omega); have hl0 : w.heap.size ≤ w1.heap.size := (by omega); have hm0 : w.heap.size ≤ w1.heap.size + 1 := (by omega); obtain ⟨hcb0, hfb0⟩ := hx1.block_at (b := w.heap.size) (by (try simp only [World.size_alloc, World.size_setCell, World.size_drew, size_drewN]); omega); have hs1 : w.heap.size + 1 < w1.heap.size := (by omega); have hl1 : w.heap.size + 1 ≤ w1.heap.size := (by omega); have hm1 : w.heap.size + 1 ≤ w1.heap.size + 1 := (by omega); obtain ⟨hcb1, hfb1⟩ := hx1.block_at (b := w.heap.size + 1) (by (try simp only [World.size_alloc, World.size_setCell, World.size_drew, size_drewN]); omega); have hs2 : w.heap.size + 1 + 1 < w1.heap.size := (by omega); have hl2 : w.heap.size + 1 + 1 ≤ w1.heap.size := (by omega); have hm2 : w.heap.size + 1 + 1 ≤ w1.heap.size + 1 := (by omega); obtain ⟨hcb2, hfb2⟩ := hx1.block_at (b := w.heap.size + 1 + 1) (by (try simp only [World.size_alloc, World.size_setCell, World.size_drew, size_drewN]); omega))
      have hE2 : Ext w w1 := (HE.out.alloc _).trans hx1
      have hB0 := (HB0.out.alloc (.cells #[fnV 116, fnV 117] 171)).ext hx1
      have hB1 := (HB1.out.alloc (.cells #[fnV 116, fnV 117] 171)).ext hx1
      have hB2 := (HB2.out.alloc (.cells #[fnV 116, fnV 117] 171)).ext hx1
      have GE := Lib.hid hE2; have G0 := Lib.hid hB0; have G1 := Lib.hid hB1; have G2 := Lib.hid hB2
      clear hE2 hB0 hB1 hB2
      go_wp2
      all_goals
        go_roundw
        case rel =>
          first
            | (have e := flg_lo (b := bs) (l := sl) (show z < se by omega)
               exact ⟨2, by omega, by go_num, GE.out.set (by dsimp only; omega) _, G0.out.setOther (by dsimp only; omega) _, by have := G1.out.set 1 (.bool true); simpa [e] using this, G2.out.setOther (by dsimp only; omega) _⟩)
            | (have e := flg_hi (b := bs) (l := sl) (show se ≤ z by omega) (by omega)
               exact ⟨2, by omega, by go_num, GE.out.set (by dsimp only; omega) _, G0.out.setOther (by dsimp only; omega) _, by have := G1.out.set 1 (.bool false); simpa [e] using this, G2.out.setOther (by dsimp only; omega) _⟩)
            | (have e := flg_mid (b := bs) (l := sl) (show se ≤ z by omega) (by omega)
               exact ⟨2, by omega, by go_num, GE.out, G0.out, by have := G1.out; simpa [e] using this, G2.out⟩)
        case measure => simp [intOf]
    | 2, _ =>
      go_wp2_with fail
      (refine wp_region_quietE (by kernel_rfl) (by kernel_rfl) ?_; (repeat (go_big_quiet_step ((first | (go_at_call 118; exact quietE (parts5_any _ _)) | (go_at_call 119; exact quietE (parts6_any _ _)))))); refine wpQuiet_nil ?_; rintro w1 ⟨⟨_, hx1⟩, rfl⟩; (try dsimp only); have hz1 := hx1.size; (try simp only [World.size_alloc, World.size_setCell, World.size_drew, size_drewN] at hz1); obtain ⟨hc1, hf1⟩ := hx1.old (B := w.heap.size) (by (try simp only [World.size_alloc, World.size_setCell, World.size_drew, size_drewN]); omega); have hs0 : w.heap.size < w1.heap.size := (by omega); have hl0 : w.heap.size ≤ w1.heap.size := (by omega); have hm0 : w.heap.size ≤ w1.heap.size + 1 := (by omega); obtain ⟨hcb0, hfb0⟩ := hx1.block_at (b := w.heap.size) (by (try simp only [World.size_alloc, World.size_setCell, World.size_drew, size_drewN]); omega); have hs1 : w.heap.size + 1 < w1.heap.size := (by omega); have hl1 : w.heap.size + 1 ≤ w1.heap.size := (by omega); have hm1 : w.heap.size + 1 ≤ w1.heap.size + 1 := (by omega); obtain ⟨hcb1, hfb1⟩ := hx1.block_at (b := w.heap.size + 1) (by (try simp only [World.size_alloc, World.size_setCell, World.size_drew, size_drewN]); omega); have hs2 : w.heap.size + 1 + 1 < w1.heap.size := (by omega); have hl2 : w.heap.size + 1 + 1 ≤ w1.heap.size := (by omega); have hm2 : w.heap.size + 1 + 1 ≤ w1.heap.size + 1 := (by omega); obtain ⟨hcb2, hfb2⟩ := hx1.block_at (b := w.heap.size + 1 + 1) (by (try simp only [World.size_alloc, World.size_setCell, World.size_drew, size_drewN]); omega))
      have hE2 : Ext w w1 := (HE.out.alloc _).trans hx1
      have hB0 := (HB0.out.alloc (.cells #[fnV 118, fnV 119] 171)).ext hx1
      have hB1 := (HB1.out.alloc (.cells #[fnV 118, fnV 119] 171)).ext hx1
      have hB2 := (HB2.out.alloc (.cells #[fnV 118, fnV 119] 171)).ext hx1
      have GE := Lib.hid hE2; have G0 := Lib.hid hB0; have G1 := Lib.hid hB1; have G2 := Lib.hid hB2
      clear hE2 hB0 hB1 hB2
      go_wp2
      all_goals
        go_roundw
        case rel =>
          first
            | (have e := flg_lo (b := ba) (l := al) (show z < ae by omega)
               exact ⟨3, by omega, by go_num, GE.out.set (by dsimp only; omega) _, G0.out.setOther (by dsimp only; omega) _, by have := G1.out.set 2 (.bool true); simpa [e] using this, G2.out.setOther (by dsimp only; omega) _⟩)
            | (have e := flg_hi (b := ba) (l := al) (show ae ≤ z by omega) (by omega)
               exact ⟨3, by omega, by go_num, GE.out.set (by dsimp only; omega) _, G0.out.setOther (by dsimp only; omega) _, by have := G1.out.set 2 (.bool false); simpa [e] using this, G2.out.setOther (by dsimp only; omega) _⟩)
            | (have e := flg_mid (b := ba) (l := al) (show ae ≤ z by omega) (by omega)
               exact ⟨3, by omega, by go_num, GE.out, G0.out, by have := G1.out; simpa [e] using this, G2.out⟩)
        case measure => simp [intOf]
    | 3, _ =>
      go_wp2
      refine bodyPost_ret ?_ rfl ⟨rfl, ?_⟩
      · (simp only [results, Try.results94]; go_simp)
      · have hx := HE.out
        (repeat (first | (with_reducible exact Ext.refl _) | (with_reducible assumption) | (with_reducible refine Ext.alloc ?_ _) | ((with_reducible refine Ext.setp ?_ ?_); focus (dsimp only; omega)) | (with_reducible refine Ext.drew ?_) | (with_reducible refine Ext.drewN ?_ _) | (with_reducible refine Ext.trans ?_ (by assumption))))
    | k + 4, hk => omega
end Go.Proofs.Ytbnalhmcbolngaa
