/- Walk of the reference's Run of layer 30. Conditions: the heights read as a slice of ints. -/
import Derived.Test.YtdbhneoaibbofaaInhB
import Derived.Test.YtdbhneoaibbofaaSpecR
import Derived.Test.YtdbhneoaibbofaaBase2
import Derived.Test.YtdbhneoaibbofaaReg2
namespace Go.Proofs.Ytdbhneoaibbofaa
set_option linter.unusedSimpArgs false
set_option linter.unusedVariables false
open Go.RowKit

abbrev blkCells (x : BlkD) : List Value := [.bool x.1, .bool x.2.1, .bool x.2.2]
/-- v owns, among the blocks from B on, the states l. -/
abbrev OwB (w : World) (B : Nat) (v : Value) (l : List BlkD) : Prop := w.ownsRow B 27 3 v l.length (l.flatMap blkCells)

theorem Try.infoBlk : (Try.prog.info? 27).map (fun i => (i.zero, i.size, i.bytes)) = some (some (.agg #[.bool false, .bool false, .bool false]), 3, 3) := by kernel_rfl

/-- What the loop of the reference's Run keeps. -/
def RunRel (w : World) (B : Nat) (de dl se sl ae al r : Int) (l : List Int) (k : Nat) (v : Value) (wr : World) : Prop :=
  Ext w wr ∧ w.heap.size < B ∧ Blk wr w.heap.size #[.int .i64 de, .int .i64 dl, .int .i64 se, .int .i64 sl, .int .i64 ae, .int .i64 al, .int .i64 r] 25 ∧
  Blk wr B #[.bool ((l.take k).foldl (stp de dl se sl ae al) (false, false, false)).1, .bool ((l.take k).foldl (stp de dl se sl ae al) (false, false, false)).2.1, .bool ((l.take k).foldl (stp de dl se sl ae al) (false, false, false)).2.2] 27 ∧
  OwB wr (B + 1) v (sts (stp de dl se sl ae al) (false, false, false) (l.take k)) ∧ (l.take k).any wrongB = false

set_option maxRecDepth 100000 in
set_option maxHeartbeats 2000000 in
theorem refRun_any (de dl se sl ae al r : Int) (v1 : Value) (l : List Int) (w : World) (h1 : RdI .i64 w v1 l) :
    Calls Try.prog 21 #[.agg #[.int .i64 de, .int .i64 dl, .int .i64 se, .int .i64 sl, .int .i64 ae, .int .i64 al, .int .i64 r], v1] w fun en w' =>
      (∃ v, en = .returned (.tuple #[v, .int .i64 (runR de dl se sl ae al r l).2]) ∧ OwB w' w.heap.size v (runR de dl se sl ae al r l).1) ∧ Ext w w' := by
  obtain ⟨a1, c1, rfl, hc1, hm1, hr1⟩ := h1.get
  clear h1
  have H1 := Lib.hid hr1; clear hr1
  rcases chk_01 (de := de) (dl := dl) (se := se) (sl := sl) (ae := ae) (al := al) (r := r) with h | h
  · have H := Lib.hid h; clear h
    by_cases hlen : 1024 < l.length
    · go_enter Try.func21, Try.ntmps21
      go_wp2_with fail
      refine (refCheck_any _ _ _ _ _ _ _ _).mono ?_
      rintro e w1 ⟨rfl, hx1⟩; have hz1 := hx1.size; (try simp only [World.size_alloc, World.size_setCell, World.size_drew, size_drewN] at hz1); obtain ⟨hc1, hf1⟩ := hx1.old (B := w.heap.size) (by (try simp only [World.size_alloc, World.size_setCell, World.size_drew, size_drewN]); omega); have hs0 : w.heap.size < w1.heap.size := (by omega); have hl0 : w.heap.size ≤ w1.heap.size := (by omega); have hm0 : w.heap.size ≤ w1.heap.size + 1 := (by omega); obtain ⟨hcb0, hfb0⟩ := hx1.block_at (b := w.heap.size) (by (try simp only [World.size_alloc, World.size_setCell, World.size_drew, size_drewN]); omega)
      rw [H.out]
      go_wp2_with fail
      go_ret2
      rw [runR_4 H.out hlen]
      exact ⟨⟨.slice none 0 0, rfl, World.ownsRow_nil _ _ _ _⟩, by (repeat (first | (with_reducible exact Ext.refl _) | (with_reducible assumption) | (with_reducible refine Ext.alloc ?_ _) | ((with_reducible refine Ext.setp ?_ ?_); focus (dsimp only; omega)) | (with_reducible refine Ext.drew ?_) | (with_reducible refine Ext.drewN ?_ _) | (with_reducible refine Ext.trans ?_ (by assumption))))⟩
    · have hd : decide (1024 < (l.length : Int)) = false := by simp; omega
      go_enter Try.func21, Try.ntmps21
      go_wp2_with fail
      refine (refCheck_any _ _ _ _ _ _ _ _).mono ?_
      rintro e w1 ⟨rfl, hx1⟩; have hz1 := hx1.size; (try simp only [World.size_alloc, World.size_setCell, World.size_drew, size_drewN] at hz1); obtain ⟨hc1, hf1⟩ := hx1.old (B := w.heap.size) (by (try simp only [World.size_alloc, World.size_setCell, World.size_drew, size_drewN]); omega); have hs0 : w.heap.size < w1.heap.size := (by omega); have hl0 : w.heap.size ≤ w1.heap.size := (by omega); have hm0 : w.heap.size ≤ w1.heap.size + 1 := (by omega); obtain ⟨hcb0, hfb0⟩ := hx1.block_at (b := w.heap.size) (by (try simp only [World.size_alloc, World.size_setCell, World.size_drew, size_drewN]); omega)
      rw [H.out]
      go_wp2_with fail
      have hR : RunRel w w1.heap.size de dl se sl ae al r l 0 (.slice none 0 0) (w1.alloc (.cells #[.bool false, .bool false, .bool false] 27)) :=
        ⟨by (repeat (first | (with_reducible exact Ext.refl _) | (with_reducible assumption) | (with_reducible refine Ext.alloc ?_ _) | ((with_reducible refine Ext.setp ?_ ?_); focus (dsimp only; omega)) | (with_reducible refine Ext.drew ?_) | (with_reducible refine Ext.drewN ?_ _) | (with_reducible refine Ext.trans ?_ (by assumption)))), hs0, ((Blk.new w _ _).ext hx1).alloc _, by simpa using Blk.new w1 _ _, World.ownsRow_nil _ _ _ _, rfl⟩
      have HR := Lib.hid hR
      clear hR
      generalize hB : w1.heap.size = B at HR ⊢
      clear hx1 hz1 hc1 hf1 hs0 hl0 hm0 hcb0 hfb0
      generalize w1.alloc (.cells #[.bool false, .bool false, .bool false] 27) = w2 at HR ⊢
      clear hB
      go_loopw [6, 7, 9] (fun e v i wr => ∃ k : Nat, k ≤ l.length ∧ i = .int .i64 k ∧ e = .int .i64 0 ∧ RunRel w B de dl se sl ae al r l k v wr) (fun _ _ i _ => l.length - (intOf i).toNat)
      case atStart => exact ⟨0, by omega, rfl, rfl, HR.out⟩
      case round =>
        obtain ⟨k, hk, rfl, rfl, hext, hwB, hb0, hb1, hown, hok⟩ := hrel
        by_cases hlt : k < l.length
        · obtain ⟨b1, o1, rfl, hbl, hx1⟩ := H1.out k hlt
          have hx2 := (hext.cell (p := ⟨b1, o1 + k, none⟩) hbl).trans hx1
          clear hx1
          have hzr := hext.size
          have hbr : b1 < wr.heap.size := by omega
          obtain ⟨st, hst⟩ : ∃ st, st = (l.take k).foldl (stp de dl se sl ae al) (false, false, false) := ⟨_, rfl⟩
          rw [← hst] at hb1
          have HS := Lib.hid hst; clear hst
          obtain ⟨x, y, z⟩ := st
          dsimp only at hb1
          have c0 := hb0.cell; have c1' := hb1.cell; have f1 := hb1.free
          have l0 := hb0.lt; have l1 := hb1.lt
          have HE := Lib.hid hext; have HB0 := Lib.hid hb0; have HB1 := Lib.hid hb1; have HO := Lib.hid hown; have HK := Lib.hid hok
          clear hext hb0 hb1 hown hok
          have q1 : (0 : Int) ≤ (k : Int) := by omega
          have q2 : (k : Int) < (l.length : Int) := by omega
          obtain ⟨zk, hzk⟩ : ∃ zk, zk = l[k] := ⟨_, rfl⟩
          have hx3 : wr.cell? ⟨b1, o1 + k, none⟩ = some (.int .i64 zk) := by rw [hx2, hzk]; simp [hlt]
          have HZ := Lib.hid hzk; clear hzk hx2
          by_cases hw : zk < -2000 ∨ 60000 < zk
          · have hu := upd_2 (bd := x) (bs := y) (ba := z) H.out hw
            have hcall := fun W => refUpdate_any de dl se sl ae al r x y z zk W
            rw [hu] at hcall
            dsimp only at hcall
            have HC := Lib.hid hcall; clear hcall
            have HU := Lib.hid hu; clear hu
            have HW := Lib.hid hw; clear hw
            go_wp2_with fail
            (refine wp_region_qptE 8 2 (by kernel_rfl) (by kernel_rfl) (fun _ _ d _ _ h => by cases d <;> exact h) ?_; simp only [Nat.reduceAdd, List.take_succ_cons, List.take_zero, List.take_nil, List.drop_succ_cons, List.drop_zero]; (repeat (go_big_quiet_step ((go_at_call 25; exact quietE (HC.out _))))); refine wpQuiet_nil ?_; rintro w1 ⟨⟨_, hx1⟩, rfl⟩; (try dsimp only); (repeat (go_big_quiet_step (fail))); refine wpQuiet_nil ?_; have hz1 := hx1.size; (try simp only [World.size_alloc, World.size_setCell, World.size_drew, size_drewN] at hz1); obtain ⟨hc1, hf1⟩ := hx1.old (B := w.heap.size) (by (try simp only [World.size_alloc, World.size_setCell, World.size_drew, size_drewN]); omega))
            have hB0 := HB0.out.ext hx1; have hB1 := HB1.out.ext hx1
            have d0 := hB0.cell; have d1 := hB1.cell; have g1 := hB1.free; have m1 := hB1.lt
            have G0 := Lib.hid hB0; have G1 := Lib.hid hB1; clear hB0 hB1
            go_wp2
            go_ret2
            have hany := any_hit hlt (HZ.out ▸ wrongB_yes HW.out)
            have hE := HE.out
            rw [runR_w H.out (by omega) hany]
            exact ⟨⟨.slice none 0 0, rfl, World.ownsRow_nil _ _ _ _⟩, by (repeat (first | (with_reducible exact Ext.refl _) | (with_reducible assumption) | (with_reducible refine Ext.alloc ?_ _) | ((with_reducible refine Ext.setp ?_ ?_); focus (dsimp only; omega)) | (with_reducible refine Ext.drew ?_) | (with_reducible refine Ext.drewN ?_ _) | (with_reducible refine Ext.trans ?_ (by assumption))))⟩
          · have hu := upd_0 (bd := x) (bs := y) (ba := z) H.out (show -2000 ≤ zk by omega) (show zk ≤ 60000 by omega)
            have hcall := fun W => refUpdate_any de dl se sl ae al r x y z zk W
            rw [hu] at hcall
            dsimp only at hcall
            have HC := Lib.hid hcall; clear hcall
            have HU := Lib.hid hu; clear hu
            have HW := Lib.hid hw; clear hw
            go_wp2_with fail
            (refine wp_region_qptE 8 2 (by kernel_rfl) (by kernel_rfl) (fun _ _ d _ _ h => by cases d <;> exact h) ?_; simp only [Nat.reduceAdd, List.take_succ_cons, List.take_zero, List.take_nil, List.drop_succ_cons, List.drop_zero]; (repeat (go_big_quiet_step ((go_at_call 25; exact quietE (HC.out _))))); refine wpQuiet_nil ?_; rintro w1 ⟨⟨_, hx1⟩, rfl⟩; (try dsimp only); (repeat (go_big_quiet_step (fail))); refine wpQuiet_nil ?_; have hz1 := hx1.size; (try simp only [World.size_alloc, World.size_setCell, World.size_drew, size_drewN] at hz1); obtain ⟨hc1, hf1⟩ := hx1.old (B := w.heap.size) (by (try simp only [World.size_alloc, World.size_setCell, World.size_drew, size_drewN]); omega))
            have hB0 := HB0.out.ext hx1; have hB1 := HB1.out.ext hx1
            have d0 := hB0.cell; have d1 := hB1.cell; have g1 := hB1.free; have m1 := hB1.lt
            have G0 := Lib.hid hB0; have G1 := Lib.hid hB1; clear hB0 hB1
            have hE := HE.out.trans hx1
            have hO := own_ext HO.out hx1
            unfold OwB at hO
            rw [sts_len, List.length_take_of_le (by omega)] at hO
            have hO2 := own_setBelow (own_setBelow (own_setBelow hO (a := ⟨B, 0, none⟩) (by dsimp only; omega) (.bool (flg de dl x zk))) (a := ⟨B, 1, none⟩) (by dsimp only; omega) (.bool (flg se sl y zk))) (a := ⟨B, 2, none⟩) (by dsimp only; omega) (.bool (flg ae al z zk))
            have GE := Lib.hid hE; have GO := Lib.hid hO2
            clear hE hO hO2
            go_wp2_with (at_builtin; refine wpList_append_at (((w1.setCell ⟨B, 0, none⟩ (.bool (flg de dl x zk))).setCell ⟨B, 1, none⟩ (.bool (flg se sl y zk))).setCell ⟨B, 2, none⟩ (.bool (flg ae al z zk))) w1.heap.size (by simp only [World.size_setCell]) rfl _ _ 48 rfl (B + 1) 27 (.agg #[.bool false, .bool false, .bool false]) 3 3 Try.underlying48 Try.infoBlk rfl (by decide) _ _ _ GO.out rfl [_, _, _] rfl (by simp [Value.oneCell']) rfl (by omega) (by omega) (by omega) ?_)
            intro g cap w3 hown3 hb3
            have hE3 : Ext w w3 := Below.trans (((GE.out.set (p := ⟨B, 0, none⟩) (by dsimp only; omega) (.bool (flg de dl x zk))).set (p := ⟨B, 1, none⟩) (by dsimp only; omega) (.bool (flg se sl y zk))).set (p := ⟨B, 2, none⟩) (by dsimp only; omega) (.bool (flg ae al z zk))) (hb3.mono (by omega))
            have hG0 := ((((G0.out.setOther (a := ⟨B, 0, none⟩) (by dsimp only; omega) (.bool (flg de dl x zk))).setOther (a := ⟨B, 1, none⟩) (by dsimp only; omega) (.bool (flg se sl y zk))).setOther (a := ⟨B, 2, none⟩) (by dsimp only; omega) (.bool (flg ae al z zk)))).below hb3 (by omega)
            have hG1 := (((G1.out.set 0 (.bool (flg de dl x zk))).set 1 (.bool (flg se sl y zk))).set 2 (.bool (flg ae al z zk))).below hb3 (by omega)
            have HE3 := Lib.hid hE3; have HG0 := Lib.hid hG0; have HG1 := Lib.hid hG1; have HO3 := Lib.hid hown3
            clear hE3 hG0 hG1 hown3 hb3
            go_wp2
            go_roundw
            case rel =>
              have ht : l.take (k + 1) = l.take k ++ [l[k]] := List.take_succ_eq_append_getElem hlt
              have hf : (l.take (k + 1)).foldl (stp de dl se sl ae al) (false, false, false) = (flg de dl x zk, flg se sl y zk, flg ae al z zk) := by
                rw [ht, List.foldl_append, ← HS.out, ← HZ.out]; rfl
              have hs : sts (stp de dl se sl ae al) (false, false, false) (l.take (k + 1)) = sts (stp de dl se sl ae al) (false, false, false) (l.take k) ++ [(flg de dl x zk, flg se sl y zk, flg ae al z zk)] := by
                rw [ht, sts_snoc, ← HS.out, ← HZ.out]; rfl
              refine ⟨k + 1, by omega, by go_num, rfl, HE3.out, hwB, HG0.out, ?_, ?_, ?_⟩
              · rw [hf]; simpa using HG1.out
              · unfold OwB; rw [sts_len, List.length_take_of_le (by omega), hs, List.flatMap_append]; simpa using HO3.out
              · rw [any_take hlt, HK.out, ← HZ.out, wrongB_no HW.out]; rfl
            case measure => simp [intOf]; omega
        · go_wp2
          go_ret2
          have htk : l.take k = l := List.take_of_length_le (by omega)
          rw [htk] at hok hown
          rw [runR_0 H.out (by omega) hok]
          exact ⟨⟨_, rfl, own_mono hown (by omega)⟩, hext⟩
  · have H := Lib.hid h; clear h
    go_enter Try.func21, Try.ntmps21
    go_wp2_with fail
    refine (refCheck_any _ _ _ _ _ _ _ _).mono ?_
    rintro e w1 ⟨rfl, hx1⟩; have hz1 := hx1.size; (try simp only [World.size_alloc, World.size_setCell, World.size_drew, size_drewN] at hz1); obtain ⟨hc1, hf1⟩ := hx1.old (B := w.heap.size) (by (try simp only [World.size_alloc, World.size_setCell, World.size_drew, size_drewN]); omega); have hs0 : w.heap.size < w1.heap.size := (by omega); have hl0 : w.heap.size ≤ w1.heap.size := (by omega); have hm0 : w.heap.size ≤ w1.heap.size + 1 := (by omega); obtain ⟨hcb0, hfb0⟩ := hx1.block_at (b := w.heap.size) (by (try simp only [World.size_alloc, World.size_setCell, World.size_drew, size_drewN]); omega)
    rw [H.out]
    go_wp2_with fail
    go_ret2
    rw [runR_1 H.out]
    exact ⟨⟨.slice none 0 0, rfl, World.ownsRow_nil _ _ _ _⟩, by (repeat (first | (with_reducible exact Ext.refl _) | (with_reducible assumption) | (with_reducible refine Ext.alloc ?_ _) | ((with_reducible refine Ext.setp ?_ ?_); focus (dsimp only; omega)) | (with_reducible refine Ext.drew ?_) | (with_reducible refine Ext.drewN ?_ _) | (with_reducible refine Ext.trans ?_ (by assumption))))⟩

end Go.Proofs.Ytdbhneoaibbofaa
