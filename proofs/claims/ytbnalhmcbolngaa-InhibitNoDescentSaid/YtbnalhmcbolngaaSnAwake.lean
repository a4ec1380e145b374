/- Part of the proof of nodL_holds: what the row needs of Awake. Conditions: as each theorem states. -/
import Derived.Test.YtbnalhmcbolngaaSnHelp
import Derived.Test.YtbnalhmcbolngaaSnRunC
import Derived.Test.YtbnalhmcbolngaaSnMask
import Derived.Test.YtbnalhmcbolngaaSnInhH
import Derived.Test.YtbnalhmcbolngaaSnReg5
namespace Go.Proofs.Ytbnalhmcbolngaa
set_option linter.unusedSimpArgs false
set_option linter.unusedVariables false
open Go.RowKit
theorem rd_of_blk {w : World} {b : Nat} {c : Array Value} {t : TypeId} (h : Blk w b c t) (hc : c.size ≤ 1000000) : Rd w (.slice (some ⟨b, 0, none⟩) c.size c.size) c.toList := by
  have := own_rd (l := c.toList) (own_of_blk (B := 0) h (by omega) rfl hc (xs := c.toList) (List.take_of_length_le (by simp)))
  simpa using this
theorem rdN_of_blk {w : World} {b : Nat} {c : Array Value} {t : TypeId} (h : Blk w b c t) (m n : Nat) (l : List (List Value)) (hl : l.length = n) (hm : ∀ x ∈ l, x.length = m) (hc : c.toList = l.flatten) (hn : c.size = n * m) (hs : n ≤ 1000000) : RdN m w (.slice (some ⟨b, 0, none⟩) n n) l := by
  subst hl
  refine own_rdN (B := 0) (e := t) ⟨by rw [← hc, ← hn, Array.length_toList], .inr ⟨b, l.length, c, rfl, by omega, h, Nat.le_refl _, by unfold maxLen; omega, hn, ?_⟩⟩ hm
  rw [← hn, ← Array.length_toList, List.take_length, hc]
def awS : List (UInt8 × UInt8 × UInt8) := [(48, 48, 48), (48, 49, 48), (48, 49, 48), (49, 49, 48), (49, 49, 48), (48, 49, 48), (49, 49, 49), (49, 49, 48)]
def awF (x : UInt8 × UInt8 × UInt8) : BlkD := ((x.1.toNat : Int) == 49, (x.2.1.toNat : Int) == 49, (x.2.2.toNat : Int) == 49)
def awC : Array Value := (awS.map fun x => Value.string ⟨#[x.1, x.2.1, x.2.2]⟩).toArray
def awL : List Int := [1600, 1499, 1100, 999, 1199, 1200, 250, 400]
theorem aw_run : runR 1000 1200 1500 1700 300 400 25 awL = (awS.map awF, 0) := by decide
def awB : List Bnd := [(0, 0, 0), (2, -100, -30), (2, -100, -25), (1, 10, 100)]
def awBC : Array Value := #[.int .u8 0, .int .i64 0, .int .i64 0, .int .u8 2, .int .i64 (-100), .int .i64 (-30), .int .u8 2, .int .i64 (-100), .int .i64 (-25), .int .u8 1, .int .i64 10, .int .i64 100]
theorem aw_mask1 : mskR 1000 1200 1500 1700 300 400 25 false true false awB = ([true, false, true, true], 0) := by decide
theorem aw_mask2 : mskR 1000 1200 1500 1700 300 400 25 true true false awB = ([true, false, false, true], 0) := by decide
theorem aw_weak1 : weak (chk 1000 1200 1500 1700 300 400 25) 25 false true false 2 30 false = (2, 25, false, 0) := by decide
theorem aw_weak2 : weak (chk 1000 1200 1500 1700 300 400 25) 25 true true false 2 30 false = (2, 0, true, 0) := by decide
theorem aw_rdb {w : World} {b : Nat} (h : Blk w b awBC 86) : RdBnd w (.slice (some ⟨b, 0, none⟩) 4 4) awB :=
  rdN_of_blk h 3 4 _ rfl (by simp [awB]) rfl rfl (by omega)
theorem flags_010 (w : World) : Calls Try.prog 52 #[.string ⟨#[48, 49, 48]⟩] w fun en w' => en = .returned (.agg #[.bool false, .bool true, .bool false]) ∧ Ext w w' := flags_any 48 49 48 w
theorem flags_110 (w : World) : Calls Try.prog 52 #[.string ⟨#[49, 49, 48]⟩] w fun en w' => en = .returned (.agg #[.bool true, .bool true, .bool false]) ∧ Ext w w' := flags_any 49 49 48 w
theorem awC_get {k : Nat} {x : UInt8 × UInt8 × UInt8} (h : awS[k]? = some x) : awC[0 + k]? = some (Value.string ⟨#[x.1, x.2.1, x.2.2]⟩) := by
  rw [Nat.zero_add]; simp [awC, h]
def awH : Array Value := #[.int .i64 1000, .int .i64 1200, .int .i64 1500, .int .i64 1700, .int .i64 300, .int .i64 400, .int .i64 25]
set_option maxRecDepth 100000 in
set_option maxHeartbeats 4000000 in
theorem awake30_any (w : World) : Calls Try.prog 25 #[] w fun en w' => en = .returned (.bool true) ∧ Ext w w' := by
  go_enter Try.func25, Try.ntmps25
  go_wp2_with fail
  refine (heights_any _).mono ?_
  rintro e w1 ⟨rfl, hx1⟩
  have HX := Lib.hid hx1; clear hx1
  go_wp2_with fail
  have hb0 := (Blk.new w1 awH 61).alloc (.cells (awL.map (Value.int .i64)).toArray 3)
  have hb1 := Blk.new (w1.alloc (.cells awH 61)) (awL.map (Value.int .i64)).toArray 3
  rw [World.size_alloc] at hb1
  have hrd := rd_of_blk hb1 (by decide)
  refine (run_any _ _ _ _ _ _ _ _ awL _ hrd).mono ?_
  rintro e w2 ⟨⟨v, rfl, hown⟩, hx2⟩
  rw [aw_run] at hown ⊢
  have hX2 : Ext w w2 := ((HX.out.alloc _).alloc _).trans hx2
  have hB2 : Blk w2 w1.heap.size awH 61 := hb0.ext hx2
  have hs1 := HX.out.size
  simp only [World.size_alloc] at hown
  have HO := Lib.hid hown; have HX2 := Lib.hid hX2; have HB2 := Lib.hid hB2
  have hl2 := hB2.lt
  clear hb0 hb1 hrd hx2 hown hX2 hB2 HX
  generalize w1.heap.size = H at *
  go_wp2_with fail
  have hX3 : Ext w (w2.alloc (.cells awC 9)) := HX2.out.alloc _
  have hR3 := (own_rdBlk HO.out).ext ((Ext.refl w2).alloc (.cells awC 9))
  have hB3 := HB2.out.alloc (.cells awC 9)
  have hC3 := Blk.new w2 awC 9
  have hz3 : (w2.alloc (.cells awC 9)).heap.size = w2.heap.size + 1 := by simp
  have HX3 := Lib.hid hX3; have HR3 := Lib.hid hR3; have HB3 := Lib.hid hB3; have HC3 := Lib.hid hC3
  clear hX3 hR3 hB3 hC3 HX2 HO HB2
  obtain ⟨w3, hw3⟩ : ∃ w3, w3 = w2.alloc (.cells awC 9) := ⟨_, rfl⟩
  rw [← hw3] at HX3 HR3 HB3 HC3 hz3
  have hw3' : w2.alloc (.cells #[.string ⟨#[48, 48, 48]⟩, .string ⟨#[48, 49, 48]⟩, .string ⟨#[48, 49, 48]⟩, .string ⟨#[49, 49, 48]⟩, .string ⟨#[49, 49, 48]⟩, .string ⟨#[48, 49, 48]⟩, .string ⟨#[49, 49, 49]⟩, .string ⟨#[49, 49, 48]⟩] 9) = w3 := hw3.symm
  rw [hw3']
  clear hw3 hw3'
  generalize w2.heap.size = S at *
  go_loopw [4, 26] (fun v4 i wr => ∃ k : Nat, k ≤ 8 ∧ i = .int .i64 k ∧ Ext w3 wr ∧ OwBk wr (S + 1) v4 ((awS.take k).map awF)) (fun _ i _ => 8 - (intOf i).toNat)
  case atStart => exact ⟨0, by omega, rfl, Ext.refl _, World.ownsRow_nil _ _ _ _⟩
  case round =>
    obtain ⟨k, hk, rfl, hext, hown⟩ := hrel
    by_cases hlt : k < 8
    · obtain ⟨⟨x, y, z⟩, hx⟩ : ∃ x, awS[k]? = some x := ⟨awS[k]'(by simpa [awS] using hlt), List.getElem?_eq_getElem _⟩
      have hc := (HC3.out.ext hext).cell (0 + k)
      rw [awC_get hx, Nat.zero_add] at hc
      dsimp only at hc
      have hz := hext.size
      have q1 : (0 : Int) ≤ (k : Int) := by omega
      have q2 : (k : Int) < 8 := by omega
      have HE := Lib.hid hext
      unfold OwBk at hown
      rw [List.length_map, List.length_take_of_le (by simp [awS]; omega)] at hown
      have HO := Lib.hid hown; have HXX := Lib.hid hx
      clear hext hown hx
      go_wp2_with fail
      refine (flags_any x y z _).mono ?_
      rintro e w4 ⟨rfl, hx4⟩
      have hE4 := HE.out.trans hx4
      have hO4 := own_ext HO.out hx4
      have hz4 := hx4.size
      have HE4 := Lib.hid hE4; have HO4 := Lib.hid hO4
      clear hE4 hO4 hx4 hc
      go_wp2_with (at_builtin; refine wpList_append_at w4 w4.heap.size rfl rfl _ _ 71 rfl (S + 1) 78 (.agg #[.bool false, .bool false, .bool false]) 3 3 Try.underlying71 Try.infoBlk rfl (by decide) _ _ _ HO4.out rfl [_, _, _] rfl (by simp [Value.oneCell']) rfl (by omega) (by omega) (by omega) ?_)
      intro g cap w5 hown5 hb5
      have HO5 := Lib.hid hown5
      have hE5 : Ext w3 w5 := Below.trans HE4.out (hb5.mono (by omega))
      have HE5 := Lib.hid hE5
      clear hown5 hE5 hb5
      go_wp2
      go_roundw
      case rel =>
        refine ⟨k + 1, by omega, by go_num, HE5.out, ?_⟩
        have hks : k < awS.length := (List.getElem?_eq_some_iff.1 HXX.out).1
        have e : awS[k] = (x, y, z) := (List.getElem?_eq_some_iff.1 HXX.out).2
        unfold OwBk
        rw [List.length_map, List.length_take_of_le (by omega), map_take_succ _ _ _ hks, List.flatMap_append, e, List.map_take]
        exact HO5.out
      case measure => simp [intOf]; omega
    · go_wp2_with fail
      have htk : awS.take k = awS := List.take_of_length_le (by simp [awS]; omega)
      rw [htk] at hown
      have hX4 : Ext w (wr.alloc (.cells awBC 86)) := (HX3.out.trans hext).alloc _
      have hL4 := aw_rdb (Blk.new wr awBC 86)
      have hB4 : Blk (wr.alloc (.cells awBC 86)) H awH 61 := (HB3.out.ext hext).alloc _
      have hR4 := (HR3.out.ext hext).ext ((Ext.refl wr).alloc (.cells awBC 86))
      have hV4 := (own_rdBlk hown).ext ((Ext.refl wr).alloc (.cells awBC 86))
      obtain ⟨w4, hw4⟩ : ∃ w4, w4 = wr.alloc (.cells awBC 86) := ⟨_, rfl⟩
      rw [← hw4] at hX4 hL4 hB4 hR4 hV4
      have hw4' : wr.alloc (.cells #[.int .u8 0, .int .i64 0, .int .i64 0, .int .u8 2, .int .i64 (-100), .int .i64 (-30), .int .u8 2, .int .i64 (-100), .int .i64 (-25), .int .u8 1, .int .i64 10, .int .i64 100] 86) = w4 := hw4.symm
      rw [hw4']
      have HX4 := Lib.hid hX4; have HL4 := Lib.hid hL4; have HB4 := Lib.hid hB4; have HR4 := Lib.hid hR4; have HV4 := Lib.hid hV4
      have c4 := hB4.cell; have l4 := hB4.lt
      unfold awH at c4
      clear hw4 hw4' hX4 hL4 hB4 hR4 hV4 hext hown htk hlt HX3 HR3 HB3 HC3 hz3
      generalize wr.heap.size = L at *
      (refine wp_region_qfp 3 5 (by kernel_rfl) (by kernel_rfl) (fun _ _ d _ _ h => by cases d <;> exact h) ?_; intro Q9 hQ9; simp only [Nat.reduceAdd, Nat.reduceSub, List.take_succ_cons, List.take_zero, List.take_nil, List.drop_succ_cons, List.drop_zero]; simp only [Nat.reduceAdd, Nat.reduceSub, List.take_succ_cons, List.take_zero, List.take_nil, List.drop_succ_cons, List.drop_zero, List.drop_nil] at hQ9; (repeat (go_big_quiet_step ((go_at_call 52; exact quietE (flags_010 _))))); refine wpQuiet_nil ?_; rintro w1 ⟨⟨_, hx1⟩, rfl⟩; (try dsimp only); have hz1 := hx1.size; (try simp only [World.size_alloc, World.size_setCell, World.size_drew, size_drewN] at hz1); obtain ⟨hc1, hf1⟩ := hx1.old (B := w.heap.size) (by (try simp only [World.size_alloc, World.size_setCell, World.size_drew, size_drewN]); omega))
      have hx41 := hx1
      clear hz1 hc1 hf1 hx1
      go_wp2_with fail
      refine (mask_any _ _ _ _ _ _ _ _ _ _ _ awB _ (HL4.out.ext hx41)).mono ?_
      rintro e w5 ⟨⟨vm, rfl, hown⟩, hx5⟩
      rw [aw_mask1] at hown ⊢
      have hx5 := hx41.trans hx5
      have HX5 := Lib.hid (HX4.out.trans hx5); have HL5 := Lib.hid (HL4.out.ext hx5); have HB5 := Lib.hid (HB4.out.ext hx5); have HR5 := Lib.hid (HR4.out.ext hx5); have HV5 := Lib.hid (HV4.out.ext hx5)
      have HM5 := Lib.hid (own_rd (l := [Value.bool true, .bool false, .bool true, .bool true]) hown)
      have c5 := HB5.out.cell; have l5 := HB5.out.lt
      unfold awH at c5
      clear HX4 HL4 HB4 HR4 HV4 hown hx5 hx41 c4 l4
      go_wp2_with fail
      try clear hQ9
      ((repeat (go_big_quiet_step (fail))); refine wpQuiet_nil ?_; (try dsimp only))
      go_wp2_with fail
      (refine wp_region_qfp 3 5 (by kernel_rfl) (by kernel_rfl) (fun _ _ d _ _ h => by cases d <;> exact h) ?_; intro Q9 hQ9; simp only [Nat.reduceAdd, Nat.reduceSub, List.take_succ_cons, List.take_zero, List.take_nil, List.drop_succ_cons, List.drop_zero]; simp only [Nat.reduceAdd, Nat.reduceSub, List.take_succ_cons, List.take_zero, List.take_nil, List.drop_succ_cons, List.drop_zero, List.drop_nil] at hQ9; (repeat (go_big_quiet_step ((go_at_call 52; exact quietE (flags_110 _))))); refine wpQuiet_nil ?_; rintro w1 ⟨⟨_, hx1⟩, rfl⟩; (try dsimp only); have hz1 := hx1.size; (try simp only [World.size_alloc, World.size_setCell, World.size_drew, size_drewN] at hz1); obtain ⟨hc1, hf1⟩ := hx1.old (B := w.heap.size) (by (try simp only [World.size_alloc, World.size_setCell, World.size_drew, size_drewN]); omega))
      have hx51 := hx1
      clear hz1 hc1 hf1 hx1
      go_wp2_with fail
      refine (mask_any _ _ _ _ _ _ _ _ _ _ _ awB _ (HL5.out.ext hx51)).mono ?_
      rintro e w6 ⟨⟨vn, rfl, hown⟩, hx6⟩
      rw [aw_mask2] at hown ⊢
      have hx6 := hx51.trans hx6
      have HX6 := Lib.hid (HX5.out.trans hx6); have HB6 := Lib.hid (HB5.out.ext hx6); have HR6 := Lib.hid (HR5.out.ext hx6); have HV6 := Lib.hid (HV5.out.ext hx6)
      have HM6 := Lib.hid (HM5.out.ext hx6)
      have HN6 := Lib.hid (own_rd (l := [Value.bool true, .bool false, .bool false, .bool true]) hown)
      clear HX5 HL5 HB5 HR5 HV5 HM5 hown hx6 hx51 c5 l5
      go_wp2_with fail
      try clear hQ9
      ((repeat (go_big_quiet_step (fail))); refine wpQuiet_nil ?_; (try dsimp only))
      go_wp2_with fail
      have HX7 := Lib.hid (HX6.out.alloc (.cells #[.int .u8 2, .int .i64 30, .bool false] 120))
      have HB7 := Lib.hid (HB6.out.alloc (.cells #[.int .u8 2, .int .i64 30, .bool false] 120))
      have hx7 := (Ext.refl w6).alloc (.cells #[.int .u8 2, .int .i64 30, .bool false] 120)
      have HR7 := Lib.hid (HR6.out.ext hx7); have HV7 := Lib.hid (HV6.out.ext hx7); have HM7 := Lib.hid (HM6.out.ext hx7); have HN7 := Lib.hid (HN6.out.ext hx7)
      have HA7 := Lib.hid (Blk.new w6 #[.int .u8 2, .int .i64 30, .bool false] 120)
      clear HX6 HB6 hx7 HR6 HV6 HM6 HN6
      generalize w6.alloc (.cells #[.int .u8 2, .int .i64 30, .bool false] 120) = w7 at *
      generalize w6.heap.size = A at *
      have hw1 := fun W => weak_any 1000 1200 1500 1700 300 400 25 false true false 2 30 false W (by omega)
      rw [aw_weak1] at hw1
      dsimp only at hw1
      have HW1 := Lib.hid hw1; clear hw1
      (refine wp_region_alloc 4 3 13 120 #[.int .u8 0, .int .i64 0, .bool false]  _ rfl rfl rfl (fun _ _ => by go_simp) (by kernel_rfl) (by kernel_rfl) (fun _ _ d _ _ h => by cases d <;> exact h) ?_; intro S9 hS9; have cH := (HB7.out.ext hS9).cell; unfold awH at cH; have cA := (HA7.out.ext hS9).cell; have lH := (HB7.out.ext hS9).lt; have lA := (HA7.out.ext hS9).lt ; simp only [Nat.reduceAdd, Nat.reduceSub, List.take_succ_cons, List.take_zero, List.take_nil, List.drop_succ_cons, List.drop_zero]; (repeat (go_big_quiet_step ((first | (go_at_call 52; exact quietE (flags_010 _)) | (go_at_call 53; exact quietE (HW1.out _)))))); refine wpQuiet_nil ?_; intro w1 b1 hx1 hb1 hblk1; clear hS9; (try dsimp only); simp only [Act.put, List.setIfInBounds_toArray, List.set_cons_succ, List.set_cons_zero]; (repeat (go_big_quiet_step (fail))); refine wpQuiet_nil ?_; (try dsimp only))
      have c1 := hblk1.cell; have f1 := hblk1.free; have l1 := hblk1.lt
      have hx8 : Ext w7 (((w1.setCell ⟨b1, 0, none⟩ (.int .u8 2)).setCell ⟨b1, 1, none⟩ (.int .i64 25)).setCell ⟨b1, 2, none⟩ (.bool false)) := ((hx1.set (p := ⟨b1, 0, none⟩) hb1 _).set (p := ⟨b1, 1, none⟩) hb1 _).set (p := ⟨b1, 2, none⟩) hb1 _
      have hY8 : Blk (((w1.setCell ⟨b1, 0, none⟩ (.int .u8 2)).setCell ⟨b1, 1, none⟩ (.int .i64 25)).setCell ⟨b1, 2, none⟩ (.bool false)) b1 #[.int .u8 2, .int .i64 25, .bool false] 120 := by
        have := ((hblk1.set 0 (.int .u8 2)).set 1 (.int .i64 25)).set 2 (.bool false); simpa using this
      have HX8 := Lib.hid (HX7.out.trans hx8); have HB8 := Lib.hid (HB7.out.ext hx8); have HA8 := Lib.hid (HA7.out.ext hx8); have HR8 := Lib.hid (HR7.out.ext hx8); have HV8 := Lib.hid (HV7.out.ext hx8)
      have HM8 := Lib.hid (HM7.out.ext hx8); have HN8 := Lib.hid (HN7.out.ext hx8); have HY8 := Lib.hid hY8
      clear HX7 HB7 HA7 HR7 HV7 HM7 HN7 hx8 hY8 hblk1 hx1 HW1
      go_wp2_with fail
      generalize ((w1.setCell ⟨b1, 0, none⟩ (.int .u8 2)).setCell ⟨b1, 1, none⟩ (.int .i64 25)).setCell ⟨b1, 2, none⟩ (.bool false) = w8 at *
      clear c1 f1 l1 hb1
      obtain ⟨X, hX⟩ : ∃ X, X = b1 := ⟨_, rfl⟩
      rw [← hX] at HY8 ⊢
      clear hX
      have hw1 := fun W => weak_any 1000 1200 1500 1700 300 400 25 true true false 2 30 false W (by omega)
      rw [aw_weak2] at hw1
      dsimp only at hw1
      have HW1 := Lib.hid hw1; clear hw1
      (refine wp_region_alloc 4 3 15 120 #[.int .u8 0, .int .i64 0, .bool false]  _ rfl rfl rfl (fun _ _ => by go_simp) (by kernel_rfl) (by kernel_rfl) (fun _ _ d _ _ h => by cases d <;> exact h) ?_; intro S9 hS9; have cH := (HB8.out.ext hS9).cell; unfold awH at cH; have cA := (HA8.out.ext hS9).cell; have lH := (HB8.out.ext hS9).lt; have lA := (HA8.out.ext hS9).lt ; simp only [Nat.reduceAdd, Nat.reduceSub, List.take_succ_cons, List.take_zero, List.take_nil, List.drop_succ_cons, List.drop_zero]; (repeat (go_big_quiet_step ((first | (go_at_call 52; exact quietE (flags_110 _)) | (go_at_call 53; exact quietE (HW1.out _)))))); refine wpQuiet_nil ?_; intro w1 b1 hx1 hb1 hblk1; clear hS9; (try dsimp only); simp only [Act.put, List.setIfInBounds_toArray, List.set_cons_succ, List.set_cons_zero]; (repeat (go_big_quiet_step (fail))); refine wpQuiet_nil ?_; (try dsimp only))
      have c1 := hblk1.cell; have f1 := hblk1.free; have l1 := hblk1.lt
      have hx9 : Ext w8 (((w1.setCell ⟨b1, 0, none⟩ (.int .u8 2)).setCell ⟨b1, 1, none⟩ (.int .i64 0)).setCell ⟨b1, 2, none⟩ (.bool true)) := ((hx1.set (p := ⟨b1, 0, none⟩) hb1 _).set (p := ⟨b1, 1, none⟩) hb1 _).set (p := ⟨b1, 2, none⟩) hb1 _
      have hZ9 : Blk (((w1.setCell ⟨b1, 0, none⟩ (.int .u8 2)).setCell ⟨b1, 1, none⟩ (.int .i64 0)).setCell ⟨b1, 2, none⟩ (.bool true)) b1 #[.int .u8 2, .int .i64 0, .bool true] 120 := by
        have := ((hblk1.set 0 (.int .u8 2)).set 1 (.int .i64 0)).set 2 (.bool true); simpa using this
      have HX9 := Lib.hid (HX8.out.trans hx9); have HR9 := Lib.hid (HR8.out.ext hx9); have HV9 := Lib.hid (HV8.out.ext hx9)
      have HM9 := Lib.hid (HM8.out.ext hx9); have HN9 := Lib.hid (HN8.out.ext hx9); have HY9 := Lib.hid (HY8.out.ext hx9); have HZ9 := Lib.hid hZ9
      clear HX8 HB8 HA8 HR8 HV8 HM8 HN8 HY8 hx9 hZ9 hblk1 hx1 HW1
      have hE1 : ∀ W, (binOp .eql 120 (.agg #[.int .u8 2, .int .i64 25, .bool false]) (.agg #[.int .u8 2, .int .i64 25, .bool false])).run Try.prog W = .ok (.bool true) W := fun W => by rw [eqAdv, beqD_self]
      have hE2 : ∀ W, (binOp .eql 120 (.agg #[.int .u8 2, .int .i64 0, .bool true]) (.agg #[.int .u8 2, .int .i64 0, .bool true])).run Try.prog W = .ok (.bool true) W := fun W => by rw [eqAdv, beqD_self]
      go_wp2_with fail
      generalize ((w1.setCell ⟨b1, 0, none⟩ (.int .u8 2)).setCell ⟨b1, 1, none⟩ (.int .i64 0)).setCell ⟨b1, 2, none⟩ (.bool true) = w9 at *
      clear c1 f1 l1 hb1
      refine (same30_any v u4 _ _ w9 HR9.out HV9.out).mono ?_
      rintro e w10 ⟨rfl, hx10⟩
      rw [decide_eq_true (rfl : awS.map awF = awS.map awF)]
      have HX10 := Lib.hid (HX9.out.trans hx10); have HM10 := Lib.hid (HM9.out.ext hx10); have HN10 := Lib.hid (HN9.out.ext hx10); have HY10 := Lib.hid (HY9.out.ext hx10); have HZ10 := Lib.hid (HZ9.out.ext hx10)
      clear HX9 HR9 HV9 HM9 HN9 HY9 HZ9 hx10
      go_wp2_with fail
      refine (equalBools_any vm _ [true, false, true, true] [true, false, true, true] _ (HM10.out.ext ((Ext.refl w10).alloc _)) (rd_of_blk (Blk.new w10 #[.bool true, .bool false, .bool true, .bool true] 4) (by decide))).mono ?_
      rintro e w11 ⟨rfl, hx11⟩
      have hx11 := ((Ext.refl w10).alloc _).trans hx11
      have HX11 := Lib.hid (HX10.out.trans hx11); have HN11 := Lib.hid (HN10.out.ext hx11); have HY11 := Lib.hid (HY10.out.ext hx11); have HZ11 := Lib.hid (HZ10.out.ext hx11)
      clear HX10 HM10 HN10 HY10 HZ10 hx11
      rw [decide_eq_true (rfl : [true, false, true, true] = [true, false, true, true])]
      go_wp2_with fail
      refine (equalBools_any vn _ [true, false, false, true] [true, false, false, true] _ (HN11.out.ext ((Ext.refl w11).alloc _)) (rd_of_blk (Blk.new w11 #[.bool true, .bool false, .bool false, .bool true] 4) (by decide))).mono ?_
      rintro e w12 ⟨rfl, hx12⟩
      have hx12 := ((Ext.refl w11).alloc _).trans hx12
      have HX12 := Lib.hid (HX11.out.trans hx12); have HY12 := Lib.hid (HY11.out.ext hx12); have HZ12 := Lib.hid (HZ11.out.ext hx12)
      clear HX11 HN11 HY11 HZ11 hx12
      rw [decide_eq_true (rfl : [true, false, false, true] = [true, false, false, true])]
      have cY := HY12.out.cell; have cZ := HZ12.out.cell
      go_wp2_with fail
      go_ret
      exact ⟨rfl, HX12.out⟩
end Go.Proofs.Ytbnalhmcbolngaa
