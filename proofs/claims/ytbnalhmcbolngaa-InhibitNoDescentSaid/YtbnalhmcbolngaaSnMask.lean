/- Texts of this claim, laid together: SnMaskR SnMask. Conditions: as each states. -/
import Derived.Test.YtbnalhmcbolngaaSnBoolS
import Derived.Test.YtbnalhmcbolngaaSnGI
import Derived.Test.YtbnalhmcbolngaaSnInhA
import Derived.Test.YtbnalhmcbolngaaSnGA
import Derived.Test.YtbnalhmcbolngaaSnSpecM
import Derived.Test.YtbnalhmcbolngaaSnGB
import Derived.Test.YtbnalhmcbolngaaSnInhD
import Derived.Laws.MakeOwn
/- Part of the proof of nodL_holds: what the row needs of MaskR. Conditions: as each theorem states. -/
namespace Go.Proofs.Ytbnalhmcbolngaa
set_option linter.unusedSimpArgs false
set_option linter.unusedVariables false
open Go.RowKit
theorem Try.infoBool : (Try.prog.info? 4).map (fun i => (i.zero, i.size, i.bytes)) = some (some (.bool false), 1, 1) := by kernel_rfl
end Go.Proofs.Ytbnalhmcbolngaa

/- Part of the proof of nodL_holds: what the row needs of Mask. Conditions: as each theorem states. -/
namespace Go.Proofs.Ytbnalhmcbolngaa
set_option linter.unusedSimpArgs false
set_option linter.unusedVariables false
open Go.RowKit
theorem take_set_succ {α : Type} (l : List α) (k : Nat) (x : α) (h : k < l.length) : (l.set k x).take (k + 1) = l.take k ++ [x] := by
  rw [List.take_succ_eq_append_getElem (by simpa using h)]
  simp [List.take_set_of_le]
theorem own_of_blk {w : World} {b : Nat} {c : Array Value} {t : TypeId} {B n : Nat} {xs : List Value} (h : Blk w b c t) (hB : B ≤ b) (hn : c.size = n) (hm : n ≤ 1000000) (hx : c.toList.take n = xs) : w.ownsRow B t 1 (.slice (some ⟨b, 0, none⟩) n n) n xs := by
  refine ⟨by rw [← hx]; simp [hn], .inr ⟨b, n, c, rfl, hB, h, Nat.le_refl _, by unfold maxLen; omega, by omega, by rw [Nat.mul_one]; exact hx⟩⟩
def MaRel (w : World) (B : Nat) (de dl se sl ae al r : Int) (bd bs ba : Bool) (l : List Bnd) (k : Nat) (wr : World) : Prop :=
  Ext w wr ∧ w.heap.size + 1 < B ∧ Blk wr w.heap.size #[.int .i64 de, .int .i64 dl, .int .i64 se, .int .i64 sl, .int .i64 ae, .int .i64 al, .int .i64 r] 61 ∧
  Blk wr (w.heap.size + 1) #[.bool bd, .bool bs, .bool ba] 78 ∧ ∃ cs, Blk wr B cs 4 ∧ cs.size = l.length ∧ cs.toList.take k = (mskL r bd bs ba (l.take k)).map Value.bool
set_option maxRecDepth 100000 in
set_option maxHeartbeats 4000000 in
theorem mask_0 (v1 : Value) (de dl se sl ae al r : Int) (bd bs ba : Bool) (l : List Bnd) (w : World) (h1 : RdBnd w v1 l) (ha : achk l = 0) (hc : chk de dl se sl ae al r = 0) :
    Calls Try.prog 29 #[v1, .agg #[.int .i64 de, .int .i64 dl, .int .i64 se, .int .i64 sl, .int .i64 ae, .int .i64 al, .int .i64 r], .agg #[.bool bd, .bool bs, .bool ba]] w fun en w' =>
      (∃ v, en = .returned (.tuple #[v, .int .i64 0]) ∧ OwBo w' w.heap.size v (mskL r bd bs ba l)) ∧ Ext w w' := by
  have hrd := h1
  obtain ⟨a, cap, rfl, hca, hm, hr⟩ := h1.get
  clear h1
  have HR := Lib.hid hr; have H1 := Lib.hid hrd; clear hr hrd
  obtain ⟨_, _, _, hr0, hr1⟩ := chk_ok hc
  obtain ⟨hl0, hl6⟩ := achk_len30 ha
  have HA := Lib.hid ha; have HC := Lib.hid hc; clear ha hc
  go_enter Try.func29, Try.ntmps29
  go_wp2_with fail
  refine (achk_any _ l _ (H1.out.ext (((Ext.refl w).alloc _).alloc _))).mono ?_
  rintro e w1 ⟨rfl, hx1⟩
  have hX : Ext w w1 := (((Ext.refl w).alloc _).alloc _).trans hx1
  have hB0 := ((Blk.new w #[.int .i64 de, .int .i64 dl, .int .i64 se, .int .i64 sl, .int .i64 ae, .int .i64 al, .int .i64 r] 61).alloc (.cells #[.bool bd, .bool bs, .bool ba] 78)).ext hx1
  have hB1 := (Blk.new (w.alloc (.cells #[.int .i64 de, .int .i64 dl, .int .i64 se, .int .i64 sl, .int .i64 ae, .int .i64 al, .int .i64 r] 61)) #[.bool bd, .bool bs, .bool ba] 78).ext hx1
  rw [World.size_alloc] at hB1
  have c0 := hB0.cell
  have GX := Lib.hid hX; have G0 := Lib.hid hB0; have G1 := Lib.hid hB1; clear hX hB0 hB1 hx1
  rw [HA.out]
  go_wp2_with fail
  refine (check_any _ _ _ _ _ _ _ _).mono ?_
  rintro e w2 ⟨rfl, hx2⟩
  obtain ⟨i0, hi, hz0, hz1, hz2⟩ := info_parts Try.infoBool
  have hmk := run_makeSlice w2 74 4 i0 (.bool false) Try.underlying74 hi hz0 .i64 .i64 (l.length : Int) (l.length : Int) (by omega) (by omega) (by rw [hz1]; simp; omega) (by rw [hz2]; omega) (by omega)
  rw [hz1, Int.toNat_natCast, Nat.mul_one] at hmk
  have hR : MaRel w w2.heap.size de dl se sl ae al r bd bs ba l 0 (w2.alloc (.cells (madeCells (Value.bool false).cells l.length) 4)) :=
    ⟨(GX.out.trans hx2).alloc _, (G1.out.ext hx2).lt, (G0.out.ext hx2).alloc _, (G1.out.ext hx2).alloc _, _, Blk.new w2 _ _, by simp [madeCells], by simp [mskL]⟩
  have HX := Lib.hid hR; clear hR hx2 GX G0 G1
  have HM := Lib.hid hmk; clear hmk
  generalize madeCells (Value.bool false).cells l.length = mc at HX HM
  rw [HC.out]
  have hmk := HM.out
  go_wp2_with fail
  clear hmk HM
  generalize hw3 : w2.alloc (.cells mc 4) = w3 at HX ⊢
  obtain ⟨B, hB⟩ : ∃ B, B = w2.heap.size := ⟨_, rfl⟩
  rw [← hB] at HX ⊢
  clear hw3 hB
  go_loopw [30] (fun i wr => ∃ k : Nat, k ≤ l.length ∧ i = .int .i64 k ∧ MaRel w B de dl se sl ae al r bd bs ba l k wr) (fun i _ => l.length - (intOf i).toNat)
  case atStart => exact ⟨0, by omega, rfl, HX.out⟩
  case round =>
    obtain ⟨k, hk, rfl, hext, hwB, hb0, hb1, cs, hcs, hsz, htake⟩ := hrel
    by_cases hlt : k < l.length
    · obtain ⟨x, hx⟩ : ∃ x, l[k]? = some x := ⟨l[k], List.getElem?_eq_getElem hlt⟩
      obtain ⟨b, off, rfl, hb, hy1, hy2, hy3⟩ := HR.out k x hx
      have p1 := (hext.cell (p := ⟨b, off + k * 3, none⟩) hb).trans hy1
      have p2 := (hext.cell (p := ⟨b, off + k * 3 + 1, none⟩) hb).trans hy2
      have p3 := (hext.cell (p := ⟨b, off + k * 3 + 2, none⟩) hb).trans hy3
      clear hy1 hy2 hy3
      have hz := hext.size
      have hbr : b < wr.heap.size := by omega
      have q1 : (0 : Int) ≤ (k : Int) := by omega
      have q2 : (k : Int) < (l.length : Int) := by omega
      have hcase := maskCase hr0 bd bs ba k x.2.2
      obtain ⟨s, lo, hi⟩ := x
      dsimp only at p1 p2 p3 hcase
      have hE := mskL_take (r := r) (bd := bd) (bs := bs) (ba := ba) hx
      dsimp only at hE
      obtain ⟨mk, hmk⟩ : ∃ mk, mk = mskE r bd bs ba k hi := ⟨_, rfl⟩
      rw [← hmk] at hE hcase
      have HXX := Lib.hid hx; have HE := Lib.hid hE; have HXT := Lib.hid hext; have HB0 := Lib.hid hb0; have HB1 := Lib.hid hb1; have HCS := Lib.hid hcs; have HT := Lib.hid htake
      have l0 := hb0.lt; have l1 := hb1.lt; have l2 := hcs.lt
      clear hmk hx hE hext hb0 hb1 hcs htake
      have hV : Blk (wr.alloc (.cells #[.int .u8 s, .int .i64 lo, .int .i64 hi] 86)) wr.heap.size #[.int .u8 s, .int .i64 lo, .int .i64 hi] 86 := Blk.new wr _ _
      have hXV : Ext wr (wr.alloc (.cells #[.int .u8 s, .int .i64 lo, .int .i64 hi] 86)) := (Ext.refl wr).alloc _
      have HV := Lib.hid hV; have HXV := Lib.hid hXV
      clear hV hXV
      go_wp2_with fail
      generalize wr.alloc (.cells #[.int .u8 s, .int .i64 lo, .int .i64 hi] 86) = wv at HV HXV ⊢
      have c1 := (HB0.out.ext HXV.out).cell; have c3 := HV.out.cell
      have l3 := (HB0.out.ext HXV.out).lt; have l4 := HV.out.lt
      (refine wp_region_quietE (by kernel_rfl) (by kernel_rfl) ?_; (repeat (go_big_quiet_step ((fail)))); refine wpQuiet_nil ?_; rintro w1 ⟨⟨_, hx1⟩, rfl⟩; (try dsimp only); have hz1 := hx1.size; (try simp only [World.size_alloc, World.size_setCell, World.size_drew, size_drewN] at hz1); obtain ⟨hc1, hf1⟩ := hx1.old (B := w.heap.size) (by (try simp only [World.size_alloc, World.size_setCell, World.size_drew, size_drewN]); omega); have hs0 : w.heap.size < w1.heap.size := (by omega); have hl0 : w.heap.size ≤ w1.heap.size := (by omega); have hm0 : w.heap.size ≤ w1.heap.size + 1 := (by omega); obtain ⟨hcb0, hfb0⟩ := hx1.block_at (b := w.heap.size) (by (try simp only [World.size_alloc, World.size_setCell, World.size_drew, size_drewN]); omega); have hs1 : w.heap.size + 1 < w1.heap.size := (by omega); have hl1 : w.heap.size + 1 ≤ w1.heap.size := (by omega); have hm1 : w.heap.size + 1 ≤ w1.heap.size + 1 := (by omega); obtain ⟨hcb1, hfb1⟩ := hx1.block_at (b := w.heap.size + 1) (by (try simp only [World.size_alloc, World.size_setCell, World.size_drew, size_drewN]); omega))
      have hE1 := (HXT.out.trans HXV.out).trans hx1
      have hB0 := (HB0.out.ext HXV.out).ext hx1; have hB1 := (HB1.out.ext HXV.out).ext hx1; have hB2 := (HCS.out.ext HXV.out).ext hx1
      have d1 := hB1.cell; have d2 := hB2.cell (0 + k); have d3 := hB2.free; have d4 := hB2.lt; have d5 := hB1.lt
      rw [Nat.zero_add, Array.getElem?_eq_getElem (by omega)] at d2
      generalize cs[k] = ck at d2
      have GE1 := Lib.hid hE1; have GB0 := Lib.hid hB0; have GB1 := Lib.hid hB1; have GB2 := Lib.hid hB2
      clear hE1 hB0 hB1 hB2 c1 c3 hx1 hz1 hc1 hf1 hcb0 hfb0 hcb1 hfb1 p1 p2 p3
      cases hcase
      case first h =>
        go_wp2_with fail
        go_roundw
        case rel =>
          refine ⟨k + 1, by omega, by go_num, GE1.out.set (by dsimp only; omega) _, hwB, GB0.out.setOther (by dsimp only; omega) _, GB1.out.setOther (by dsimp only; omega) _, _, GB2.out.set k (.bool true), by simpa using hsz, ?_⟩
          rw [HE.out, List.map_append, ← HT.out, Array.toList_setIfInBounds, take_set_succ _ _ _ (by simpa using (show k < cs.size by omega))]
          rfl
        case measure => simp [intOf]; omega
      case all h h1 =>
        subst h1
        go_wp2_with fail
        go_roundw
        case rel =>
          refine ⟨k + 1, by omega, by go_num, GE1.out.set (by dsimp only; omega) _, hwB, GB0.out.setOther (by dsimp only; omega) _, GB1.out.setOther (by dsimp only; omega) _, _, GB2.out.set k (.bool false), by simpa using hsz, ?_⟩
          rw [HE.out, List.map_append, ← HT.out, Array.toList_setIfInBounds, take_set_succ _ _ _ (by simpa using (show k < cs.size by omega))]
          rfl
        case measure => simp [intOf]; omega
      case desc h h1 h2 h3 =>
        subst h1
        subst h2
        have hd3 : decide (hi < 0) = true := by simpa using h3
        go_wp2_with fail
        go_roundw
        case rel =>
          refine ⟨k + 1, by omega, by go_num, GE1.out.set (by dsimp only; omega) _, hwB, GB0.out.setOther (by dsimp only; omega) _, GB1.out.setOther (by dsimp only; omega) _, _, GB2.out.set k (.bool false), by simpa using hsz, ?_⟩
          rw [HE.out, List.map_append, ← HT.out, Array.toList_setIfInBounds, take_set_succ _ _ _ (by simpa using (show k < cs.size by omega))]
          rfl
        case measure => simp [intOf]; omega
      case d1 h h1 h2 h3 h4 h5 =>
        subst h1
        subst h2
        subst h4
        have hd3 : decide (hi < 0) = false := by simp; omega
        have hd5 : decide (hi < -r) = false := by simp; omega
        go_wp2_with fail
        go_roundw
        case rel =>
          refine ⟨k + 1, by omega, by go_num, GE1.out.set (by dsimp only; omega) _, hwB, GB0.out.setOther (by dsimp only; omega) _, GB1.out.setOther (by dsimp only; omega) _, _, GB2.out.set k (.bool true), by simpa using hsz, ?_⟩
          rw [HE.out, List.map_append, ← HT.out, Array.toList_setIfInBounds, take_set_succ _ _ _ (by simpa using (show k < cs.size by omega))]
          rfl
        case measure => simp [intOf]; omega
      case d2 h h1 h2 h3 h4 =>
        subst h1
        subst h2
        subst h4
        have hd3 : decide (hi < 0) = false := by simp; omega
        go_wp2_with fail
        go_roundw
        case rel =>
          refine ⟨k + 1, by omega, by go_num, GE1.out.set (by dsimp only; omega) _, hwB, GB0.out.setOther (by dsimp only; omega) _, GB1.out.setOther (by dsimp only; omega) _, _, GB2.out.set k (.bool true), by simpa using hsz, ?_⟩
          rw [HE.out, List.map_append, ← HT.out, Array.toList_setIfInBounds, take_set_succ _ _ _ (by simpa using (show k < cs.size by omega))]
          rfl
        case measure => simp [intOf]; omega
      case s0 h h1 h2 h4 h5 =>
        subst h1
        subst h2
        subst h4
        have hd5 : decide (hi < -r) = true := by simpa using h5
        go_wp2_with fail
        go_roundw
        case rel =>
          refine ⟨k + 1, by omega, by go_num, GE1.out.set (by dsimp only; omega) _, hwB, GB0.out.setOther (by dsimp only; omega) _, GB1.out.setOther (by dsimp only; omega) _, _, GB2.out.set k (.bool false), by simpa using hsz, ?_⟩
          rw [HE.out, List.map_append, ← HT.out, Array.toList_setIfInBounds, take_set_succ _ _ _ (by simpa using (show k < cs.size by omega))]
          rfl
        case measure => simp [intOf]; omega
      case s1 h h1 h2 h4 h5 =>
        subst h1
        subst h2
        subst h4
        have hd5 : decide (hi < -r) = false := by simp; omega
        go_wp2_with fail
        go_roundw
        case rel =>
          refine ⟨k + 1, by omega, by go_num, GE1.out.set (by dsimp only; omega) _, hwB, GB0.out.setOther (by dsimp only; omega) _, GB1.out.setOther (by dsimp only; omega) _, _, GB2.out.set k (.bool true), by simpa using hsz, ?_⟩
          rw [HE.out, List.map_append, ← HT.out, Array.toList_setIfInBounds, take_set_succ _ _ _ (by simpa using (show k < cs.size by omega))]
          rfl
        case measure => simp [intOf]; omega
      case s2 h h1 h2 h4 =>
        subst h1
        subst h2
        subst h4
        go_wp2_with fail
        go_roundw
        case rel =>
          refine ⟨k + 1, by omega, by go_num, GE1.out.set (by dsimp only; omega) _, hwB, GB0.out.setOther (by dsimp only; omega) _, GB1.out.setOther (by dsimp only; omega) _, _, GB2.out.set k (.bool true), by simpa using hsz, ?_⟩
          rw [HE.out, List.map_append, ← HT.out, Array.toList_setIfInBounds, take_set_succ _ _ _ (by simpa using (show k < cs.size by omega))]
          rfl
        case measure => simp [intOf]; omega
    · go_wp2
      go_ret2
      have htk : l.take k = l := List.take_of_length_le (by omega)
      have hkl : k = l.length := by omega
      subst hkl
      rw [htk] at htake
      refine ⟨⟨_, rfl, ?_⟩, hext⟩
      unfold OwBo
      rw [mskL_len]
      exact own_of_blk hcs (by omega) hsz (by omega) htake
set_option maxHeartbeats 2000000 in
theorem mask_any (v1 : Value) (de dl se sl ae al r : Int) (bd bs ba : Bool) (l : List Bnd) (w : World) (h1 : RdBnd w v1 l) :
    Calls Try.prog 29 #[v1, .agg #[.int .i64 de, .int .i64 dl, .int .i64 se, .int .i64 sl, .int .i64 ae, .int .i64 al, .int .i64 r], .agg #[.bool bd, .bool bs, .bool ba]] w fun en w' =>
      (∃ v, en = .returned (.tuple #[v, .int .i64 (mskR de dl se sl ae al r bd bs ba l).2]) ∧ OwBo w' w.heap.size v (mskR de dl se sl ae al r bd bs ba l).1) ∧ Ext w w' := by
  by_cases ha : achk l = 0
  · rcases chk_01 (de := de) (dl := dl) (se := se) (sl := sl) (ae := ae) (al := al) (r := r) with h | h
    · rw [mskR_0 ha h]
      exact mask_0 v1 de dl se sl ae al r bd bs ba l w h1 ha h
    · rw [mskR_1 ha h]
      have H1 := Lib.hid h1
      obtain ⟨a, cap, rfl, hca, hm, hr⟩ := h1.get
      clear h1 hr
      have HA := Lib.hid ha; have HC := Lib.hid h; clear ha h
      go_enter Try.func29, Try.ntmps29
      go_wp2_with fail
      refine (achk_any _ l _ (H1.out.ext (((Ext.refl w).alloc _).alloc _))).mono ?_
      rintro e w1 ⟨rfl, hx1⟩; have hz1 := hx1.size; (try simp only [World.size_alloc, World.size_setCell, World.size_drew, size_drewN] at hz1); obtain ⟨hc1, hf1⟩ := hx1.old (B := w.heap.size) (by (try simp only [World.size_alloc, World.size_setCell, World.size_drew, size_drewN]); omega); have hs0 : w.heap.size < w1.heap.size := (by omega); have hl0 : w.heap.size ≤ w1.heap.size := (by omega); have hm0 : w.heap.size ≤ w1.heap.size + 1 := (by omega); obtain ⟨hcb0, hfb0⟩ := hx1.block_at (b := w.heap.size) (by (try simp only [World.size_alloc, World.size_setCell, World.size_drew, size_drewN]); omega); have hs1 : w.heap.size + 1 < w1.heap.size := (by omega); have hl1 : w.heap.size + 1 ≤ w1.heap.size := (by omega); have hm1 : w.heap.size + 1 ≤ w1.heap.size + 1 := (by omega); obtain ⟨hcb1, hfb1⟩ := hx1.block_at (b := w.heap.size + 1) (by (try simp only [World.size_alloc, World.size_setCell, World.size_drew, size_drewN]); omega)
      rw [HA.out]
      go_wp2_with fail
      have hX : Ext w w1 := (((Ext.refl w).alloc _).alloc _).trans hx1
      have GX := Lib.hid hX
      clear hX hx1 hz1 hc1 hf1 hs0 hl0 hm0 hcb0 hfb0 hs1 hl1 hm1 hcb1 hfb1
      refine (check_any _ _ _ _ _ _ _ _).mono ?_
      rintro e w2 ⟨rfl, hx2⟩
      rw [HC.out]
      go_wp2_with fail
      go_ret2
      have := GX.out
      exact ⟨⟨_, rfl, World.ownsRow_nil _ _ _ _⟩, by (repeat (first | (with_reducible exact Ext.refl _) | (with_reducible assumption) | (with_reducible refine Ext.alloc ?_ _) | ((with_reducible refine Ext.setp ?_ ?_); focus (dsimp only; omega)) | (with_reducible refine Ext.drew ?_) | (with_reducible refine Ext.drewN ?_ _) | (with_reducible refine Ext.trans ?_ (by assumption))))⟩
  · rw [mskR_a ha]
    have H1 := Lib.hid h1
    obtain ⟨a, cap, rfl, hca, hm, hr⟩ := h1.get
    clear h1 hr
    have hb1 : (achk l == 0) = false := by simpa using ha
    have hb2 : (achk l != 0) = true := by simpa using ha
    clear ha
    go_enter Try.func29, Try.ntmps29
    go_wp2_with fail
    refine (achk_any _ l _ (H1.out.ext (((Ext.refl w).alloc _).alloc _))).mono ?_
    rintro e w1 ⟨rfl, hx1⟩
    go_wp2_with fail
    go_ret2
    exact ⟨⟨_, rfl, World.ownsRow_nil _ _ _ _⟩, by (repeat (first | (with_reducible exact Ext.refl _) | (with_reducible assumption) | (with_reducible refine Ext.alloc ?_ _) | ((with_reducible refine Ext.setp ?_ ?_); focus (dsimp only; omega)) | (with_reducible refine Ext.drew ?_) | (with_reducible refine Ext.drewN ?_ _) | (with_reducible refine Ext.trans ?_ (by assumption))))⟩
end Go.Proofs.Ytbnalhmcbolngaa

