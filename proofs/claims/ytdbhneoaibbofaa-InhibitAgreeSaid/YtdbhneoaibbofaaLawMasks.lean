/- Walk of the law InhibitMasks: it returns true. Conditions: the advisories read as a slice. -/
import Derived.Test.YtdbhneoaibbofaaAwake
import Derived.Test.YtdbhneoaibbofaaInhG
namespace Go.Proofs.Ytdbhneoaibbofaa
set_option linter.unusedSimpArgs false
set_option linter.unusedVariables false
open Go.RowKit

set_option maxHeartbeats 1000000 in
theorem overBools_any (v : Value) (l : List Bool) (B : Nat) (w : World) (h : OwBo w B v l) : Calls Try.prog 15 #[v] w fun e w' => e = .returned (.tuple #[]) ∧ Below B w w' := by
  rcases h.2 with ⟨rfl, h0⟩ | ⟨g, cap, cur, rfl, hb, hg, hn, hm, hs, ht⟩
  · have hd : l.length = 0 := h0
    clear h
    go_enter Try.func15, Try.ntmps15
    go_wp2_with fail
    go_loopw [2] (fun i wr => i = .int .i64 0 ∧ wr = w) (fun _ _ => 0)
    case atStart => exact ⟨rfl, rfl⟩
    case round =>
      obtain ⟨rfl, rfl⟩ := hrel
      go_wp2
      go_end0
      exact ⟨rfl, Below.refl _ _⟩
  · have hlen := h.1
    clear h
    have hgl : Blk w g cur 4 := hg
    have hall : ∀ i, i < l.length → ∃ b : Bool, cur[i]? = some (.bool b) := by
      intro i hi
      have e1 : (cur.toList.take (l.length * 1))[i]? = (l.map Value.bool)[i]? := by rw [ht]
      rw [List.getElem?_take_of_lt (by omega), Array.getElem?_toList, List.getElem?_map, List.getElem?_eq_getElem hi] at e1
      exact ⟨l[i], e1⟩
    have hcap : cap ≤ 9223372036854775807 := by unfold maxLen at hm; omega
    have HG := Lib.hid hgl; have HA := Lib.hid hall
    clear hg hgl hall ht hs hm
    go_enter Try.func15, Try.ntmps15
    go_wp2_with fail
    go_loopw [2] (fun i wr => ∃ (k : Nat) (cs : Array Value), k ≤ l.length ∧ i = .int .i64 k ∧ Below B w wr ∧ Blk wr g cs 4 ∧ ∀ i, i < l.length → ∃ b : Bool, cs[i]? = some (.bool b)) (fun i _ => l.length - (intOf i).toNat)
    case atStart => exact ⟨0, cur, by omega, rfl, Below.refl _ _, HG.out, HA.out⟩
    case round =>
      obtain ⟨k, cs, hk, rfl, hbel, hblk, hcs⟩ := hrel
      by_cases hlt : k < l.length
      · obtain ⟨b, hb1⟩ := hcs k hlt
        have c1 := hblk.cell (0 + k); have f1 := hblk.free; have l1 := hblk.lt
        rw [Nat.zero_add, hb1] at c1
        have q1 : (0 : Int) ≤ (k : Int) := by omega
        have q2 : (k : Int) < (l.length : Int) := by omega
        have HB := Lib.hid hbel; have HK := Lib.hid hblk; have HC := Lib.hid hcs
        clear hbel hblk hcs
        go_wp2_with fail
        go_roundw
        case rel =>
          refine ⟨k + 1, _, by omega, by go_num, HB.out.setCell (by dsimp only; omega) _, HK.out.set k (.bool !b), fun i hi => ?_⟩
          by_cases hik : k = i
          · subst hik
            have : k < cs.size := (Array.getElem?_eq_some_iff.1 hb1).1
            exact ⟨!b, by simp [this]⟩
          · obtain ⟨b', hb'⟩ := HC.out i hi
            exact ⟨b', by rw [Array.getElem?_setIfInBounds_ne hik]; exact hb'⟩
        case measure => simp [intOf]; omega
      · go_wp2
        go_end0
        exact ⟨rfl, hbel⟩

theorem rdb_own {w : World} {B : Nat} {v : Value} {l : List Bool} (h : OwBo w B v l) : Rd w v (l.map Value.bool) := own_rd (B := B) (e := 4) (by rw [List.length_map]; exact h)
theorem below_ext {w w' : World} {n : Nat} (h : Below n w w') (hn : w.heap.size ≤ n) : Ext w w' := h.mono hn
theorem below_ext2 {a w w' : World} (x : Ext a w) (h : Below a.heap.size w w') : Ext a w' := Below.trans x h

set_option maxRecDepth 100000 in
set_option maxHeartbeats 4000000 in
theorem masks_any (de dl se sl ae al r : Int) (bd bs ba : Bool) (v : Value) (l : List Bnd) (s rt : Int) (kp : Bool) (w : World) (hrd : RdBnd w v l) (hs : 0 ≤ s) :
    Calls Try.prog 3 #[.agg #[.int .i64 de, .int .i64 dl, .int .i64 se, .int .i64 sl, .int .i64 ae, .int .i64 al, .int .i64 r], .agg #[.bool bd, .bool bs, .bool ba], .agg #[v, .int .u8 s, .int .i64 rt, .bool kp]] w fun en w' => en = .returned (.bool true) ∧ Ext w w' := by
  have hrd0 := hrd
  obtain ⟨a, cap, rfl, hca, hm, hr⟩ := hrd.get
  clear hrd hr
  have HRD := Lib.hid hrd0; clear hrd0
  by_cases hlen : 20 < l.length
  · have hd : decide (20 < (l.length : Int)) = true := by simp; omega
    go_enter Try.func3, Try.ntmps3
    go_wp2_with fail
    refine (awake_any _).mono ?_
    rintro e w1 ⟨rfl, hx1⟩
    go_wp2_with fail
    go_ret
    exact ⟨rfl, by (repeat (first | (with_reducible exact Ext.refl _) | (with_reducible assumption) | (with_reducible refine Ext.alloc ?_ _) | ((with_reducible refine Ext.setp ?_ ?_); focus (dsimp only; omega)) | (with_reducible refine Ext.drew ?_) | (with_reducible refine Ext.drewN ?_ _) | (with_reducible refine Ext.trans ?_ (by assumption))))⟩
  · have hd : decide (20 < (l.length : Int)) = false := by simp; omega
    go_enter Try.func3, Try.ntmps3
    go_wp2_with fail
    have hx0 : Ext w (((w.alloc (.cells #[.int .i64 de, .int .i64 dl, .int .i64 se, .int .i64 sl, .int .i64 ae, .int .i64 al, .int .i64 r] 25)).alloc (.cells #[.bool bd, .bool bs, .bool ba] 27)).alloc (.cells #[.slice a l.length cap, .int .u8 s, .int .i64 rt, .bool kp] 32)) := (((Ext.refl w).alloc _).alloc _).alloc _
    have hB0 := ((Blk.new w #[.int .i64 de, .int .i64 dl, .int .i64 se, .int .i64 sl, .int .i64 ae, .int .i64 al, .int .i64 r] 25).alloc (.cells #[.bool bd, .bool bs, .bool ba] 27)).alloc (.cells #[.slice a l.length cap, .int .u8 s, .int .i64 rt, .bool kp] 32)
    have hB1 := (Blk.new (w.alloc (.cells #[.int .i64 de, .int .i64 dl, .int .i64 se, .int .i64 sl, .int .i64 ae, .int .i64 al, .int .i64 r] 25)) #[.bool bd, .bool bs, .bool ba] 27).alloc (.cells #[.slice a l.length cap, .int .u8 s, .int .i64 rt, .bool kp] 32)
    have hB2 := Blk.new ((w.alloc (.cells #[.int .i64 de, .int .i64 dl, .int .i64 se, .int .i64 sl, .int .i64 ae, .int .i64 al, .int .i64 r] 25)).alloc (.cells #[.bool bd, .bool bs, .bool ba] 27)) #[.slice a l.length cap, .int .u8 s, .int .i64 rt, .bool kp] 32
    rw [World.size_alloc] at hB1
    rw [World.size_alloc, World.size_alloc] at hB2
    obtain ⟨p1, hM⟩ : ∃ p, p = mskR de dl se sl ae al r bd bs ba l := ⟨_, rfl⟩
    obtain ⟨p2, hW⟩ : ∃ p, p = weak (chk de dl se sl ae al r) r bd bs ba s rt kp := ⟨_, rfl⟩
    have hcR := fun W v h => refMask_any v de dl se sl ae al r bd bs ba l W h
    have hcM := fun W v h => mask_any v de dl se sl ae al r bd bs ba l W h
    have hcW := fun W => weak_any de dl se sl ae al r bd bs ba s rt kp W hs
    have hcV := fun W => refWeak_any de dl se sl ae al r bd bs ba s rt kp W hs
    rw [← hM] at hcR hcM
    rw [← hW] at hcW hcV
    clear hM hW
    obtain ⟨ml, er⟩ := p1
    obtain ⟨ps, pr, pk, pe⟩ := p2
    dsimp only at hcR hcM hcW hcV
    have HCM := Lib.hid hcM; have HCW := Lib.hid hcW; have HCV := Lib.hid hcV
    refine (hcR _ _ (HRD.out.ext hx0)).mono ?_
    clear hcR hcM hcW hcV
    rintro e w1 ⟨⟨vw, rfl, hown⟩, hx1⟩
    have HX := Lib.hid (hx0.trans hx1); have H0 := Lib.hid (hB0.ext hx1); have H1 := Lib.hid (hB1.ext hx1); have H2 := Lib.hid (hB2.ext hx1); have HR := Lib.hid (rdb_own hown)
    clear hx0 hB0 hB1 hB2 hx1 hown
    have c0 := H0.out.cell; have c1 := H1.out.cell; have c2 := H2.out.cell
    go_wp2_with fail
    refine (HCW.out _).mono ?_
    rintro e w2 ⟨rfl, hx2⟩
    have hA2 := Blk.new w2 #[.int .u8 ps, .int .i64 pr, .bool pk] 30
    have hx2 := hx2.alloc (.cells #[.int .u8 ps, .int .i64 pr, .bool pk] 30)
    have HX2 := Lib.hid (HX.out.trans hx2); have J0 := Lib.hid (H0.out.ext hx2); have J1 := Lib.hid (H1.out.ext hx2); have J2 := Lib.hid (H2.out.ext hx2); have HR2 := Lib.hid (HR.out.ext hx2); have HA2 := Lib.hid hA2
    clear HX H0 H1 H2 HR hx2 hA2 c0 c1 c2
    have c0 := J0.out.cell; have c1 := J1.out.cell; have c2 := J2.out.cell
    go_wp2_with fail
    refine (HCV.out _).mono ?_
    rintro e w3 ⟨rfl, hx3⟩
    have hA3 := Blk.new w3 #[.int .u8 ps, .int .i64 pr, .bool pk] 30
    have hx3 := hx3.alloc (.cells #[.int .u8 ps, .int .i64 pr, .bool pk] 30)
    have HX3 := Lib.hid (HX2.out.trans hx3); have K0 := Lib.hid (J0.out.ext hx3); have K1 := Lib.hid (J1.out.ext hx3); have K2 := Lib.hid (J2.out.ext hx3); have HR3 := Lib.hid (HR2.out.ext hx3); have HA3 := Lib.hid (HA2.out.ext hx3); have HZ3 := Lib.hid hA3
    have hsz : (w3.alloc (.cells #[.int .u8 ps, .int .i64 pr, .bool pk] 30)).heap.size = w3.heap.size + 1 := by simp
    clear HX2 J0 J1 J2 HR2 HA2 hx3 hA3 c0 c1 c2
    go_wp2_with fail
    generalize w3.alloc (.cells #[.int .u8 ps, .int .i64 pr, .bool pk] 30) = w4 at *
    generalize w3.heap.size = A3 at *
    generalize w2.heap.size = A2 at *
    go_loopw [13] (fun i wr => ∃ k : Nat, k ≤ 2 ∧ i = .int .i64 k ∧ Ext w4 wr) (fun i _ => 2 - (intOf i).toNat)
    case atStart => exact ⟨0, by omega, rfl, Ext.refl _⟩
    case round =>
      obtain ⟨k, hk, rfl, hext⟩ := hrel
      by_cases hlt : k < 2
      · have c0 := (K0.out.ext hext).cell; have c1 := (K1.out.ext hext).cell; have c2 := (K2.out.ext hext).cell
        have HE := Lib.hid hext; clear hext
        go_wp2_with fail
        refine (HCM.out _ _ (HRD.out.ext (HX3.out.trans HE.out))).mono ?_
        rintro e w5 ⟨⟨vm, rfl, hown⟩, hx5⟩
        have HE5 := Lib.hid (HE.out.trans hx5); have HW5 := Lib.hid hown; have HM5 := Lib.hid (rdb_own hown)
        clear hx5 hown c0 c1 c2
        go_wp2_with fail
        refine (equalBools_any vm vw ml ml w5 HM5.out (HR3.out.ext HE5.out)).mono ?_
        rintro e w6 ⟨rfl, hx6⟩
        rw [decide_eq_true (rfl : ml = ml)]
        have HE6 := Lib.hid (HE5.out.trans hx6); have HW6 := Lib.hid (own_ext HW5.out hx6)
        clear hx6 HE5 HW5 HM5
        go_wp2_with fail
        refine (overBools_any vm ml wr.heap.size w6 HW6.out).mono ?_
        rintro e w7 ⟨rfl, hx7⟩
        have HE7 := Lib.hid (Below.trans HE6.out (hx7.mono HE.out.size))
        clear hx7
        go_wp2_with fail
        go_roundw
        case rel => exact ⟨k + 1, by omega, by go_num, HE7.out⟩
        case measure => simp [intOf]; omega
      · have hA := HA3.out.ext hext; have hZ := HZ3.out.ext hext
        have c0 := hA.cell; have c1 := hZ.cell
        have hE : ∀ W, (binOp .eql 30 (.agg #[.int .u8 ps, .int .i64 pr, .bool pk]) (.agg #[.int .u8 ps, .int .i64 pr, .bool pk])).run Try.prog W = .ok (.bool true) W := fun W => by rw [eqAdv, beqD_self]
        have HE := Lib.hid hext; clear hext hA hZ
        go_wp2_with fail
        refine (awake_any _).mono ?_
        rintro e w8 ⟨rfl, hx8⟩
        go_wp2_with fail
        go_ret
        exact ⟨rfl, (HX3.out.trans HE.out).trans hx8⟩

end Go.Proofs.Ytdbhneoaibbofaa
