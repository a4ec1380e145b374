/- Walk of the law InhibitMonotone: it returns true. Conditions: the lists read as slices of ints; the second one's numbers are not negative. -/
import Derived.Test.YtdbhneoaibbofaaAwake
import Derived.Test.YtdbhneoaibbofaaSpecT
namespace Go.Proofs.Ytdbhneoaibbofaa
set_option linter.unusedSimpArgs false
set_option linter.unusedVariables false
open Go.RowKit

def LowOk (high L : List Int) (k : Nat) : Prop := L.length = k ∧ ∀ (i : Nat) (x y : Int), L[i]? = some x → high[i]? = some y → -2000 ≤ x ∧ x ≤ y
theorem LowOk.snoc {high L : List Int} {k : Nat} (h : LowOk high L k) {x y : Int} (hy : high[k]? = some y) (h1 : -2000 ≤ x) (h2 : x ≤ y) : LowOk high (L ++ [x]) (k + 1) := by
  obtain ⟨hl, ha⟩ := h
  refine ⟨by simp [hl], fun i u v hu hv => ?_⟩
  by_cases hi : i < L.length
  · rw [List.getElem?_append_left hi] at hu
    exact ha i u v hu hv
  · rw [List.getElem?_append_right (by omega)] at hu
    have hik : i = k := by
      have := (List.getElem?_eq_some_iff.1 hu).1
      simp at this
      omega
    subst hik
    rw [hl, Nat.sub_self] at hu
    simp at hu
    rw [hy] at hv
    cases hv
    subst hu
    exact ⟨h1, h2⟩

set_option maxRecDepth 100000 in
set_option maxHeartbeats 4000000 in
theorem mono_any (de dl se sl ae al r : Int) (v1 v2 : Value) (l1 l2 : List Int) (w : World) (hr1 : RdI .i64 w v1 l1) (hr2 : RdI .u16 w v2 l2) (hw2 : ∀ y ∈ l2, 0 ≤ y ∧ y ≤ 65535) :
    Calls Try.prog 4 #[.agg #[.int .i64 de, .int .i64 dl, .int .i64 se, .int .i64 sl, .int .i64 ae, .int .i64 al, .int .i64 r], v1, v2] w fun en w' => en = .returned (.bool true) ∧ Ext w w' := by
  have HR1 := Lib.hid hr1
  obtain ⟨a2, c2, rfl, hc2, hm2, hg2⟩ := hr2.get
  obtain ⟨a1, c1, rfl, hc1, hm1, _⟩ := hr1.get
  have HR2 := Lib.hid hg2; have HW2 := Lib.hid hw2
  clear hr1 hr2 hg2 hw2
  go_enter Try.func4, Try.ntmps4
  go_wp2_with fail
  refine (awake_any _).mono ?_
  rintro e w1 ⟨rfl, hx1⟩
  have HX := Lib.hid (((Ext.refl w).alloc _).trans hx1)
  have hB0 := (Blk.new w #[.int .i64 de, .int .i64 dl, .int .i64 se, .int .i64 sl, .int .i64 ae, .int .i64 al, .int .i64 r] 25).ext hx1
  have c0 := hB0.cell
  clear hx1 hB0
  go_wp2_with fail
  refine (tame_any _ _ _ _ _ _ _ _).mono ?_
  rintro e w2 ⟨rfl, hx2⟩
  have HX2 := Lib.hid (HX.out.trans hx2)
  clear hx2 HX c0
  go_wp2_with fail
  refine (cut_any _ l1 _ (HR1.out.ext HX2.out)).mono ?_
  rintro e w3 ⟨vh, rfl, hown, hx3⟩
  have HX3 := Lib.hid (HX2.out.trans hx3)
  have hH : RdI .i64 w3 vh (cutL l1) := own_rd (B := w2.heap.size) (e := 3) (l := (cutL l1).map (Value.int .i64)) (by rw [List.length_map]; exact hown)
  have HH3 := Lib.hid hH
  obtain ⟨ah, ch, rfl, hch, hmh, hgh⟩ := hH.get
  have HG := Lib.hid hgh
  have hlen := cutL_len l1
  clear hx3 hown HX2 hgh hH
  obtain ⟨high, hhigh⟩ : ∃ high, high = cutL l1 := ⟨_, rfl⟩
  rw [← hhigh] at HH3 HG hch hlen ⊢
  have HHI := Lib.hid hhigh; clear hhigh
  have h60 : high.length ≤ 60 := by omega
  clear hlen
  go_wp2_with fail
  have hX4 := HX3.out.alloc (.cells #[.int .i64 (umod de 2000), .int .i64 (umod de 2000 + umod dl 500), .int .i64 (umod se 2000), .int .i64 (umod se 2000 + umod sl 500), .int .i64 (umod ae 2000), .int .i64 (umod ae 2000 + umod al 500), .int .i64 (umod r 101)] 25)
  have hB4 := Blk.new w3 #[.int .i64 (umod de 2000), .int .i64 (umod de 2000 + umod dl 500), .int .i64 (umod se 2000), .int .i64 (umod se 2000 + umod sl 500), .int .i64 (umod ae 2000), .int .i64 (umod ae 2000 + umod al 500), .int .i64 (umod r 101)] 25
  have hH4 := HH3.out.ext ((Ext.refl w3).alloc (.cells #[.int .i64 (umod de 2000), .int .i64 (umod de 2000 + umod dl 500), .int .i64 (umod se 2000), .int .i64 (umod se 2000 + umod sl 500), .int .i64 (umod ae 2000), .int .i64 (umod ae 2000 + umod al 500), .int .i64 (umod r 101)] 25))
  have hz4 : (w3.alloc (.cells #[.int .i64 (umod de 2000), .int .i64 (umod de 2000 + umod dl 500), .int .i64 (umod se 2000), .int .i64 (umod se 2000 + umod sl 500), .int .i64 (umod ae 2000), .int .i64 (umod ae 2000 + umod al 500), .int .i64 (umod r 101)] 25)).heap.size = w3.heap.size + 1 := by simp
  have hG4 : ∀ i, i < high.length → ∃ b off, ah = some ⟨b, off, none⟩ ∧ b < w3.heap.size ∧ (w3.alloc (.cells #[.int .i64 (umod de 2000), .int .i64 (umod de 2000 + umod dl 500), .int .i64 (umod se 2000), .int .i64 (umod se 2000 + umod sl 500), .int .i64 (umod ae 2000), .int .i64 (umod ae 2000 + umod al 500), .int .i64 (umod r 101)] 25)).cell? ⟨b, off + i, none⟩ = some (.int .i64 (high.getD i 0)) := by
    intro i hi
    obtain ⟨b, off, h1, h2, h3⟩ := HG.out i hi
    exact ⟨b, off, h1, h2, (((Ext.refl w3).alloc (.cells #[.int .i64 (umod de 2000), .int .i64 (umod de 2000 + umod dl 500), .int .i64 (umod se 2000), .int .i64 (umod se 2000 + umod sl 500), .int .i64 (umod ae 2000), .int .i64 (umod ae 2000 + umod al 500), .int .i64 (umod r 101)] 25)).cell (p := ⟨b, off + i, none⟩) h2).trans h3⟩
  have HX4 := Lib.hid hX4; have HB4 := Lib.hid hB4; have HH4 := Lib.hid hH4; have HG4 := Lib.hid hG4
  have hck := tame_chk de dl se sl ae al r
  have HCK := Lib.hid hck
  clear hX4 hB4 hH4 hG4 HX3 HH3 HG hck
  generalize w3.alloc (.cells #[.int .i64 (umod de 2000), .int .i64 (umod de 2000 + umod dl 500), .int .i64 (umod se 2000), .int .i64 (umod se 2000 + umod sl 500), .int .i64 (umod ae 2000), .int .i64 (umod ae 2000 + umod al 500), .int .i64 (umod r 101)] 25) = w4 at *
  generalize w3.heap.size = G at *
  go_loopw [9, 10] (fun u i wr => ∃ (k : Nat) (L : List Int), k ≤ high.length ∧ i = .int .i64 k ∧ LowOk high L k ∧ OwI wr (G + 1) u L ∧ Ext w4 wr) (fun _ i _ => high.length - (intOf i).toNat)
  case atStart => exact ⟨0, [], by omega, rfl, ⟨rfl, fun i x y h => by simp at h⟩, World.ownsRow_nil _ _ _ _, Ext.refl _⟩
  case round =>
    obtain ⟨k, L, hk, rfl, hlow, hown, hext⟩ := hrel
    by_cases hlt : k < high.length
    · obtain ⟨bh, oh, rfl, hbh, hyh⟩ := HG4.out k hlt
      have hyh2 := (hext.cell (p := ⟨bh, oh + k, none⟩) (show bh < w4.heap.size by omega)).trans hyh
      obtain ⟨y, hy⟩ : ∃ y, y = high.getD k 0 := ⟨_, rfl⟩
      rw [← hy] at hyh2
      have hy' : high[k]? = some y := by rw [hy]; simp [hlt]
      have hyb : -200 ≤ y ∧ y < 2800 := by
        have : y ∈ high := List.mem_of_getElem? hy'
        rw [HHI.out] at this
        exact cutL_bd this
      have hz := hext.size
      have hL := hlow.1
      unfold OwI at hown
      rw [hL] at hown
      have q1 : (0 : Int) ≤ (k : Int) := by omega
      have q2 : (k : Int) < (high.length : Int) := by omega
      have HO := Lib.hid hown; have HE := Lib.hid hext; have HY := Lib.hid hy'; have HL := Lib.hid hlow
      clear hown hext hyh hy hy' hlow hL
      by_cases hl2 : k < l2.length
      · obtain ⟨b2, o2, rfl, hb2, hy2⟩ := HR2.out k hl2
        obtain ⟨z, hz2⟩ : ∃ z, z = l2.getD k 0 := ⟨_, rfl⟩
        rw [← hz2] at hy2
        have hzb : 0 ≤ z ∧ z ≤ 65535 := HW2.out z (by rw [hz2]; simp [hl2])
        have hy2' := ((HX4.out.trans HE.out).cell (p := ⟨b2, o2 + k, none⟩) hb2).trans hy2
        have hb2' : b2 < wr.heap.size := Nat.lt_of_lt_of_le hb2 (HX4.out.trans HE.out).size
        have q3 : (k : Int) < (l2.length : Int) := by omega
        clear hz2 hy2
        go_wp2_with (at_builtin; refine wpList_append_at wr wr.heap.size rfl rfl _ _ 43 rfl (G + 1) 3 (.int .i64 0) 1 8 Try.underlying43 Try.infoInt rfl (by decide) _ _ _ HO.out rfl [_] rfl (by simp [Value.oneCell']) rfl (by omega) (by omega) (by omega) ?_)
        intro g cap' w5 hown5 hb5
        have HO5 := Lib.hid hown5; have HB5 := Lib.hid (Below.trans HE.out (hb5.mono (by omega)))
        clear hown5 hb5
        go_wp2
        go_roundw
        case rel =>
          refine ⟨k + 1, L ++ [y - z % 400], by omega, by go_num, HL.out.snoc HY.out (by omega) (by omega), ?_, HB5.out⟩
          unfold OwI
          rw [List.length_append, HL.out.1, List.map_append]
          exact HO5.out
        case measure => simp [intOf]; omega
      · go_wp2_with (at_builtin; refine wpList_append_at wr wr.heap.size rfl rfl _ _ 43 rfl (G + 1) 3 (.int .i64 0) 1 8 Try.underlying43 Try.infoInt rfl (by decide) _ _ _ HO.out rfl [_] rfl (by simp [Value.oneCell']) rfl (by omega) (by omega) (by omega) ?_)
        intro g cap' w5 hown5 hb5
        have HO5 := Lib.hid hown5; have HB5 := Lib.hid (Below.trans HE.out (hb5.mono (by omega)))
        clear hown5 hb5
        go_wp2
        go_roundw
        case rel =>
          refine ⟨k + 1, L ++ [y], by omega, by go_num, HL.out.snoc HY.out (by omega) (by omega), ?_, HB5.out⟩
          unfold OwI
          rw [List.length_append, HL.out.1, List.map_append]
          exact HO5.out
        case measure => simp [intOf]; omega
    · have hkl : k = high.length := by omega
      subst hkl
      have cB := (HB4.out.ext hext).cell
      have hlr : RdI .i64 wr u9 L := own_rd (B := G + 1) (e := 3) (l := L.map (Value.int .i64)) (by rw [List.length_map]; exact hown)
      have hwl : L.any wrongB = false := any_wrong_no fun x hx => by
        obtain ⟨i, hi⟩ := List.getElem?_of_mem hx
        have hil : i < high.length := by rw [← hlow.1]; exact (List.getElem?_eq_some_iff.1 hi).1
        have hy : high[i]? = some high[i] := List.getElem?_eq_getElem hil
        have h1 := hlow.2 i x _ hi hy
        have h2 : high[i] ∈ cutL l1 := by rw [← HHI.out]; exact List.getElem_mem hil
        have h3 := cutL_bd h2
        omega
      have hwh : high.any wrongB = false := any_wrong_no fun x hx => by rw [HHI.out] at hx; have := cutL_bd hx; omega
      have hlow1 := hlow.1
      have hrl := runR_0 HCK.out (l := L) (by omega) hwl
      have hrh := runR_0 HCK.out (l := high) (by omega) hwh
      have HLR := Lib.hid hlr; have HE := Lib.hid hext; have HL := Lib.hid hlow; have HRL := Lib.hid hrl; have HRH := Lib.hid hrh
      clear hown hext hlow hlr hwl hwh hrl hrh hlow1
      obtain ⟨aL, cL, rfl, hcL, hmL, _⟩ := HLR.out.get
      go_wp2_with fail
      refine (run_any _ _ _ _ _ _ _ _ L _ HLR.out).mono ?_
      rintro e w5 ⟨⟨va, rfl, hown⟩, hx5⟩
      rw [HRL.out] at hown ⊢
      have cB := (HB4.out.ext (HE.out.trans hx5)).cell
      have HE5 := Lib.hid (HE.out.trans hx5); have HA5 := Lib.hid (own_rdBlk hown)
      clear hown hx5 HE
      go_wp2_with fail
      refine (run_any _ _ _ _ _ _ _ _ high _ (HH4.out.ext HE5.out)).mono ?_
      rintro e w6 ⟨⟨vb, rfl, hown⟩, hx6⟩
      rw [HRH.out] at hown ⊢
      have HE6 := Lib.hid (HE5.out.trans hx6); have HA6 := Lib.hid (HA5.out.ext hx6); have HV6 := Lib.hid (own_rdBlk hown)
      clear hown hx6 HE5 HA5 cB
      obtain ⟨aa, ca, rfl, hca, hma, hga⟩ := RdBlk.get HA6.out
      obtain ⟨ab, cb, rfl, hcb, hmb, hgb⟩ := RdBlk.get HV6.out
      have ela : (sts (stp (umod de 2000) (umod de 2000 + umod dl 500) (umod se 2000) (umod se 2000 + umod sl 500) (umod ae 2000) (umod ae 2000 + umod al 500)) (false, false, false) L).length = high.length := by rw [sts_len]; exact HL.out.1
      have elb : (sts (stp (umod de 2000) (umod de 2000 + umod dl 500) (umod se 2000) (umod se 2000 + umod sl 500) (umod ae 2000) (umod ae 2000 + umod al 500)) (false, false, false) high).length = high.length := sts_len _ _ _
      have hmo := sts_mono (umod de 2000) (umod de 2000 + umod dl 500) (umod se 2000) (umod se 2000 + umod sl 500) (umod ae 2000) (umod ae 2000 + umod al 500) L high (false, false, false) (false, false, false) HL.out.1
        (fun i h h' => (HL.out.2 i _ _ (List.getElem?_eq_getElem h) (List.getElem?_eq_getElem h')).2) rfl
      generalize sts (stp (umod de 2000) (umod de 2000 + umod dl 500) (umod se 2000) (umod se 2000 + umod sl 500) (umod ae 2000) (umod ae 2000 + umod al 500)) (false, false, false) L = sa at *
      generalize sts (stp (umod de 2000) (umod de 2000 + umod dl 500) (umod se 2000) (umod se 2000 + umod sl 500) (umod ae 2000) (umod ae 2000 + umod al 500)) (false, false, false) high = sb at *
      rw [ela, elb]
      have HGA := Lib.hid hga; have HGB := Lib.hid hgb; have HMO := Lib.hid hmo; have HELA := Lib.hid ela; have HELB := Lib.hid elb
      clear hga hgb hmo ela elb HA6 HV6 HRL HRH
      go_wp2_with fail
      go_loopw [16] (fun i W => ∃ j : Nat, j ≤ high.length ∧ i = .int .i64 j ∧ Ext w6 W) (fun i _ => high.length - (intOf i).toNat)
      case atStart => exact ⟨0, by omega, rfl, Ext.refl _⟩
      case round =>
        obtain ⟨j, hj, rfl, hxj⟩ := hrel
        by_cases hlj : j < high.length
        · obtain ⟨⟨x1, y1, z1⟩, hxa⟩ : ∃ x, sa[j]? = some x := ⟨sa[j]'(by rw [HELA.out]; exact hlj), List.getElem?_eq_getElem _⟩
          obtain ⟨⟨x2, y2, z2⟩, hxb⟩ : ∃ x, sb[j]? = some x := ⟨sb[j]'(by rw [HELB.out]; exact hlj), List.getElem?_eq_getElem _⟩
          obtain ⟨b1, o1, rfl, hb1, p1, p2, p3⟩ := HGA.out j _ hxa
          obtain ⟨b2, o2, rfl, hb2, r1, r2, r3⟩ := HGB.out j _ hxb
          have hco := HMO.out j _ _ hxa hxb
          dsimp only at p1 p2 p3 r1 r2 r3
          have s1 := (hxj.cell (p := ⟨b1, o1 + j * 3, none⟩) hb1).trans p1
          have s2 := (hxj.cell (p := ⟨b1, o1 + j * 3 + 1, none⟩) hb1).trans p2
          have s3 := (hxj.cell (p := ⟨b1, o1 + j * 3 + 2, none⟩) hb1).trans p3
          have u1 := (hxj.cell (p := ⟨b2, o2 + j * 3, none⟩) hb2).trans r1
          have u2 := (hxj.cell (p := ⟨b2, o2 + j * 3 + 1, none⟩) hb2).trans r2
          have u3 := (hxj.cell (p := ⟨b2, o2 + j * 3 + 2, none⟩) hb2).trans r3
          have hz := hxj.size
          have hbr1 : b1 < wr.heap.size := by omega
          have hbr2 : b2 < wr.heap.size := by omega
          have hcv := fun V => covers_any x1 y1 z1 x2 y2 z2 V
          rw [hco] at hcv
          have HCV := Lib.hid hcv; have HXJ := Lib.hid hxj
          have t1 : (0 : Int) ≤ (j : Int) := by omega
          have t2 : (j : Int) < (high.length : Int) := by omega
          clear hxa hxb p1 p2 p3 r1 r2 r3 hcv hxj hco
          go_wp2_with fail
          (refine wp_region_quietE (by kernel_rfl) (by kernel_rfl) ?_; (repeat (go_big_quiet_step ((go_at_call 19; exact quietE (HCV.out _))))); refine wpQuiet_nil ?_; rintro w1 ⟨⟨_, hx1⟩, rfl⟩; (try dsimp only))
          have hx := HXJ.out.trans hx1
          have HXX := Lib.hid hx
          clear hx hx1
          go_wp2_with fail
          go_roundw
          case rel => exact ⟨j + 1, by omega, by go_num, HXX.out⟩
          case measure => simp [intOf]; omega
        · go_wp2_with fail
          go_ret
          exact ⟨rfl, (HX4.out.trans HE6.out).trans hxj⟩

end Go.Proofs.Ytdbhneoaibbofaa
