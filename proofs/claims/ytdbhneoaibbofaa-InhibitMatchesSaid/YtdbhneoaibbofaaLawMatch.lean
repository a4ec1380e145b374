/- Walk of the law InhibitMatches: it returns true. Conditions: the heights read as a slice of ints. -/
import Derived.Test.YtdbhneoaibbofaaAwake
import Derived.Test.YtdbhneoaibbofaaInhF
namespace Go.Proofs.Ytdbhneoaibbofaa
set_option linter.unusedSimpArgs false
set_option linter.unusedVariables false
open Go.RowKit

/-- Block g holds bools in its first n cells. -/
def Bools (w : World) (g n : Nat) : Prop := ∃ cs, Blk w g cs 27 ∧ ∀ q, q < n → ∃ b : Bool, cs[q]? = some (.bool b)
theorem Bools.ext {w w' : World} {g n : Nat} (h : Bools w g n) (x : Ext w w') : Bools w' g n := by obtain ⟨cs, h1, h2⟩ := h; exact ⟨cs, h1.ext x, h2⟩
theorem Bools.set {w : World} {g n q : Nat} (h : Bools w g n) (b : Bool) : Bools (w.setCell ⟨g, q, none⟩ (.bool b)) g n := by
  obtain ⟨cs, h1, h2⟩ := h
  refine ⟨_, h1.set q (.bool b), fun i hi => ?_⟩
  obtain ⟨b', hb'⟩ := h2 i hi
  by_cases hik : q = i
  · subst hik
    have : q < cs.size := (Array.getElem?_eq_some_iff.1 hb').1
    exact ⟨b, by simp [this]⟩
  · exact ⟨b', by rw [Array.getElem?_setIfInBounds_ne hik]; exact hb'⟩
theorem Bools.get {w : World} {g n q : Nat} (h : Bools w g n) (hq : q < n) : ∃ b : Bool, w.cell? ⟨g, q, none⟩ = some (.bool b) := by
  obtain ⟨cs, h1, h2⟩ := h
  obtain ⟨b, hb⟩ := h2 q hq
  exact ⟨b, by rw [h1.cell]; exact hb⟩
theorem Bools.free {w : World} {g n : Nat} (h : Bools w g n) (o : Nat) : w.frozen? ⟨g, o, none⟩ = false := by obtain ⟨cs, h1, _⟩ := h; exact h1.free o
theorem Bools.lt {w : World} {g n : Nat} (h : Bools w g n) : g < w.heap.size := by obtain ⟨cs, h1, _⟩ := h; exact h1.lt

theorem blkCells_bool (l : List BlkD) : ∀ x ∈ l.flatMap blkCells, ∃ b : Bool, x = .bool b := by
  intro x hx
  obtain ⟨y, _, hy⟩ := List.mem_flatMap.1 hx
  simp [blkCells] at hy
  rcases hy with h | h | h <;> exact ⟨_, h⟩
theorem ownB_shape {w : World} {B : Nat} {v : Value} {l : List BlkD} (h : OwB w B v l) : ∃ (a : Option Addr) (cap : Nat), v = .slice a l.length cap ∧ l.length ≤ cap ∧ cap ≤ 9223372036854775807 ∧
    (0 < l.length → ∃ g, a = some ⟨g, 0, none⟩ ∧ B ≤ g ∧ Bools w g (l.length * 3)) := by
  have hl := h.1
  rcases h.2 with ⟨rfl, h0⟩ | ⟨g, cap, cur, rfl, hb, hg, hn, hm, hs, ht⟩
  · exact ⟨none, 0, by rw [h0], by omega, by omega, fun h => by omega⟩
  · refine ⟨_, cap, rfl, hn, by unfold maxLen at hm; omega, fun _ => ⟨g, rfl, hb, cur, hg, fun q hq => ?_⟩⟩
    have hq' : q < (l.flatMap blkCells).length := by rw [hl]; exact hq
    have e1 : (cur.toList.take (l.length * 3))[q]? = (l.flatMap blkCells)[q]? := by rw [ht]
    rw [List.getElem?_take_of_lt hq, Array.getElem?_toList, List.getElem?_eq_getElem hq'] at e1
    obtain ⟨b, hb'⟩ := blkCells_bool l _ (List.getElem_mem hq')
    exact ⟨b, by rw [e1, hb']⟩

/-- after Run, its states lie in the call's own memory -/
def MtRel (wr : World) (a : Option Addr) (n : Nat) (W : World) : Prop :=
  Ext wr W ∧ (0 < n → ∃ g, a = some ⟨g, 0, none⟩ ∧ wr.heap.size ≤ g ∧ Bools W g (n * 3))

set_option maxRecDepth 100000 in
set_option maxHeartbeats 4000000 in
theorem matches_any (de dl se sl ae al r : Int) (bd bs ba : Bool) (v : Value) (l : List Int) (w : World) (hrd : RdI .i64 w v l) :
    Calls Try.prog 5 #[.agg #[.int .i64 de, .int .i64 dl, .int .i64 se, .int .i64 sl, .int .i64 ae, .int .i64 al, .int .i64 r], .agg #[.bool bd, .bool bs, .bool ba], v] w fun en w' => en = .returned (.bool true) ∧ Ext w w' := by
  have hrd0 := hrd
  obtain ⟨a, cap, rfl, hca, hm, hr⟩ := hrd.get
  clear hrd
  have HRD := Lib.hid hrd0; have HR0 := Lib.hid hr; clear hrd0 hr
  by_cases hlen : 1100 < l.length
  · have hd : decide (1100 < (l.length : Int)) = true := by simp; omega
    go_enter Try.func5, Try.ntmps5
    go_wp2_with fail
    refine (awake_any _).mono ?_
    rintro e w1 ⟨rfl, hx1⟩
    go_wp2_with fail
    go_ret
    exact ⟨rfl, by (repeat (first | (with_reducible exact Ext.refl _) | (with_reducible assumption) | (with_reducible refine Ext.alloc ?_ _) | ((with_reducible refine Ext.setp ?_ ?_); focus (dsimp only; omega)) | (with_reducible refine Ext.drew ?_) | (with_reducible refine Ext.drewN ?_ _) | (with_reducible refine Ext.trans ?_ (by assumption))))⟩
  · have hd : decide (1100 < (l.length : Int)) = false := by simp; omega
    go_enter Try.func5, Try.ntmps5
    go_wp2_with fail
    have hx0 : Ext w ((w.alloc (.cells #[.int .i64 de, .int .i64 dl, .int .i64 se, .int .i64 sl, .int .i64 ae, .int .i64 al, .int .i64 r] 25)).alloc (.cells #[.bool bd, .bool bs, .bool ba] 27)) := ((Ext.refl w).alloc _).alloc _
    have hB0 := (Blk.new w #[.int .i64 de, .int .i64 dl, .int .i64 se, .int .i64 sl, .int .i64 ae, .int .i64 al, .int .i64 r] 25).alloc (.cells #[.bool bd, .bool bs, .bool ba] 27)
    have hB1 := Blk.new (w.alloc (.cells #[.int .i64 de, .int .i64 dl, .int .i64 se, .int .i64 sl, .int .i64 ae, .int .i64 al, .int .i64 r] 25)) #[.bool bd, .bool bs, .bool ba] 27
    rw [World.size_alloc] at hB1
    refine (copyInts_any _ l _ (HRD.out.ext hx0) (by omega)).mono ?_
    rintro e w1 ⟨v7, rfl, hown, hx1⟩
    have HX := Lib.hid (hx0.trans hx1); have H0 := Lib.hid (hB0.ext hx1); have H1 := Lib.hid (hB1.ext hx1)
    have HC := Lib.hid (own_rd (B := ((w.alloc (.cells #[.int .i64 de, .int .i64 dl, .int .i64 se, .int .i64 sl, .int .i64 ae, .int .i64 al, .int .i64 r] 25)).alloc (.cells #[.bool bd, .bool bs, .bool ba] 27)).heap.size) (e := 3) (v := v7) (l := l.map (Value.int .i64)) (by rw [List.length_map]; exact hown))
    clear hx0 hB0 hB1 hown hx1
    obtain ⟨p1, hM⟩ : ∃ p, p = runR de dl se sl ae al r l := ⟨_, rfl⟩
    have hcR := fun W v h => refRun_any de dl se sl ae al r v l W h
    have hcM := fun W v h => run_any de dl se sl ae al r v l W h
    rw [← hM] at hcR hcM
    clear hM
    obtain ⟨rl, er⟩ := p1
    dsimp only at hcR hcM
    have HCR := Lib.hid hcR; have HCM := Lib.hid hcM; clear hcR hcM
    have c0 := H0.out.cell
    go_wp2_with fail
    refine (HCR.out _ _ (HRD.out.ext HX.out)).mono ?_
    rintro e w2 ⟨⟨v8, rfl, hown⟩, hx2⟩
    have HX2 := Lib.hid (HX.out.trans hx2); have J0 := Lib.hid (H0.out.ext hx2); have J1 := Lib.hid (H1.out.ext hx2); have HC2 := Lib.hid (HC.out.ext hx2); have HW2 := Lib.hid (own_rdBlk hown)
    clear HX H0 H1 HC hx2 hown c0
    go_wp2_with fail
    go_loopw [10] (fun i wr => ∃ k : Nat, k ≤ 2 ∧ i = .int .i64 k ∧ Ext w2 wr) (fun i _ => 2 - (intOf i).toNat)
    case atStart => exact ⟨0, by omega, rfl, Ext.refl _⟩
    case round =>
      obtain ⟨k, hk, rfl, hext⟩ := hrel
      by_cases hlt : k < 2
      · have c0 := (J0.out.ext hext).cell
        have HE := Lib.hid hext; clear hext
        go_wp2_with fail
        refine (HCM.out _ _ (HC2.out.ext HE.out)).mono ?_
        rintro e w5 ⟨⟨v11, rfl, hown⟩, hx5⟩
        have HN := Lib.hid (own_rdBlk hown)
        obtain ⟨a11, cap11, rfl, hc11, hm11, hsh⟩ := ownB_shape hown
        have HS := Lib.hid hsh; have HE5 := Lib.hid hx5
        clear hown hx5 hsh c0
        go_wp2_with fail
        refine (same_any _ v8 rl rl w5 HN.out (HW2.out.ext (HE.out.trans HE5.out))).mono ?_
        rintro e w6 ⟨rfl, hx6⟩
        rw [decide_eq_true (rfl : rl = rl)]
        have HE6 := Lib.hid (HE5.out.trans hx6)
        have HS6 : Hid (0 < rl.length → ∃ g, a11 = some ⟨g, 0, none⟩ ∧ wr.heap.size ≤ g ∧ Bools w6 g (rl.length * 3)) := Lib.hid fun h => by obtain ⟨g, h1, h2, h3⟩ := HS.out h; exact ⟨g, h1, h2, h3.ext hx6⟩
        clear hx6 HS HE5 HN
        go_wp2_with fail
        refine (equalInts_any v7 _ l l w6 (HC2.out.ext (HE.out.trans HE6.out)) (HRD.out.ext (HX2.out.trans (HE.out.trans HE6.out)))).mono ?_
        rintro e w7 ⟨rfl, hx7⟩
        rw [decide_eq_true (rfl : l = l)]
        have HM7 : Hid (MtRel wr a11 rl.length w7) := Lib.hid ⟨HE6.out.trans hx7, fun h => by obtain ⟨g, h1, h2, h3⟩ := HS6.out h; exact ⟨g, h1, h2, h3.ext hx7⟩⟩
        clear hx7 HE6 HS6
        go_wp2_with fail
        go_loopw [13] (fun i W => ∃ j : Nat, j ≤ rl.length ∧ i = .int .i64 j ∧ MtRel wr a11 rl.length W) (fun i _ => rl.length - (intOf i).toNat)
        case atStart => exact ⟨0, by omega, rfl, HM7.out⟩
        case round =>
          obtain ⟨j, hj, rfl, hxj, hbj⟩ := hrel
          by_cases hlj : j < rl.length
          · obtain ⟨g, rfl, hg, hbo⟩ := hbj (by omega)
            obtain ⟨b0, e0⟩ := hbo.get (q := j * 3) (by omega)
            obtain ⟨b1, e1⟩ := hbo.get (q := j * 3 + 1) (by omega)
            obtain ⟨b2, e2⟩ := hbo.get (q := j * 3 + 2) (by omega)
            have f0 := hbo.free; have l0 := hbo.lt
            have q1 : (0 : Int) ≤ (j : Int) := by omega
            have q2 : (j : Int) < (rl.length : Int) := by omega
            have HXJ := Lib.hid hxj; have HBO := Lib.hid hbo
            clear hxj hbj hbo
            go_wp2_with fail
            go_roundw
            case rel =>
              refine ⟨j + 1, by omega, by go_num, ((HXJ.out.set (by dsimp only; omega) _).set (by dsimp only; omega) _).set (by dsimp only; omega) _, fun _ => ⟨g, rfl, hg, ?_⟩⟩
              exact ((HBO.out.set _).set _).set _
            case measure => simp [intOf]; omega
          · have HXJ := Lib.hid hxj; clear hxj hbj
            go_wp2_with fail
            go_roundw
            case rel => exact ⟨k + 1, by omega, by go_num, HE.out.trans HXJ.out⟩
            case measure => simp [intOf]; omega
      · have HX3 := Lib.hid (HX2.out.trans hext); have K0 := Lib.hid (J0.out.ext hext); have K1 := Lib.hid (J1.out.ext hext)
        clear hext HX2 J0 J1 HC2 HW2 HCR HCM
        go_wp2_with fail
        obtain ⟨w4, hw4⟩ : ∃ w4, w4 = wr := ⟨_, rfl⟩
        rw [← hw4] at HX3 K0 K1 ⊢
        clear hw4
        go_loopw [14] (fun i W => ∃ j : Nat, j ≤ 3 ∧ i = .int .i64 j ∧ Ext w4 W) (fun i _ => 3 - (intOf i).toNat)
        case atStart => exact ⟨0, by omega, rfl, Ext.refl _⟩
        case round =>
          obtain ⟨j, hj, rfl, hxj⟩ := hrel
          have HXJ := Lib.hid hxj; clear hxj
          by_cases hl1 : j < l.length
          · by_cases hl3 : j < 3
            · obtain ⟨bz, oz, rfl, hbz, hy1⟩ := HR0.out j hl1
              obtain ⟨zk, hzk⟩ : ∃ zk, zk = l.getD j 0 := ⟨_, rfl⟩
              rw [← hzk] at hy1
              clear hzk
              have q1 : (0 : Int) ≤ (j : Int) := by omega
              have q2 : (j : Int) < (l.length : Int) := by omega
              have HY := Lib.hid hy1; clear hy1
              have HXA := Lib.hid (HX3.out.trans HXJ.out)
              obtain ⟨p, hp⟩ : ∃ p, p = upd de dl se sl ae al r bd bs ba zk := ⟨_, rfl⟩
              have hu1 := fun W => upd_any de dl se sl ae al r bd bs ba zk W
              have hu2 := fun W => refUpdate_any de dl se sl ae al r bd bs ba zk W
              rw [← hp] at hu1 hu2
              clear hp
              obtain ⟨pa, pb, pc, pe⟩ := p
              dsimp only at hu1 hu2
              have HU1 := Lib.hid hu1; have HU2 := Lib.hid hu2; clear hu1 hu2
              go_wp2_with fail
              (refine wp_region_alloc 7 3 15 27 #[.bool false, .bool false, .bool false]  _ rfl rfl rfl (fun _ _ => by go_simp) (by kernel_rfl) (by kernel_rfl) (fun _ _ d _ _ h => by cases d <;> exact h) ?_; intro S9 hS9; have cH := ((K0.out.ext HXJ.out).ext hS9).cell; have cA := ((K1.out.ext HXJ.out).ext hS9).cell; have lH := ((K0.out.ext HXJ.out).ext hS9).lt; have lA := ((K1.out.ext HXJ.out).ext hS9).lt; have cZ := ((HXA.out.trans hS9).cell (p := ⟨bz, oz + j, none⟩) hbz).trans HY.out; have lZ : bz < S9.heap.size := Nat.lt_of_lt_of_le hbz (HXA.out.trans hS9).size ; simp only [Nat.reduceAdd, Nat.reduceSub, List.take_succ_cons, List.take_zero, List.take_nil, List.drop_succ_cons, List.drop_zero]; (repeat (go_big_quiet_step (((go_at_call 24; exact quietE (HU1.out _)))))); refine wpQuiet_nil ?_; intro w1 b1 hx1 hb1 hblk1; clear hS9; (try dsimp only); simp only [Act.put, List.setIfInBounds_toArray, List.set_cons_succ, List.set_cons_zero]; (repeat (go_big_quiet_step (fail))); refine wpQuiet_nil ?_; (try dsimp only))
              have c1 := hblk1.cell; have f1 := hblk1.free; have l1 := hblk1.lt
              have hx8 : Ext wr (((w1.setCell ⟨b1, 0, none⟩ (.bool pa)).setCell ⟨b1, 1, none⟩ (.bool pb)).setCell ⟨b1, 2, none⟩ (.bool pc)) := ((hx1.set (p := ⟨b1, 0, none⟩) hb1 _).set (p := ⟨b1, 1, none⟩) hb1 _).set (p := ⟨b1, 2, none⟩) hb1 _
              have hY8 : Blk (((w1.setCell ⟨b1, 0, none⟩ (.bool pa)).setCell ⟨b1, 1, none⟩ (.bool pb)).setCell ⟨b1, 2, none⟩ (.bool pc)) b1 #[.bool pa, .bool pb, .bool pc] 27 := by
                have := ((hblk1.set 0 (.bool pa)).set 1 (.bool pb)).set 2 (.bool pc); simpa using this
              have HX8 := Lib.hid (HXJ.out.trans hx8); have HY8 := Lib.hid hY8
              clear hx8 hY8 hblk1 hx1
              go_wp2_with fail
              generalize ((w1.setCell ⟨b1, 0, none⟩ (.bool pa)).setCell ⟨b1, 1, none⟩ (.bool pb)).setCell ⟨b1, 2, none⟩ (.bool pc) = w8 at *
              clear c1 f1 l1 hb1
              (refine wp_region_alloc 7 3 17 27 #[.bool false, .bool false, .bool false]  _ rfl rfl rfl (fun _ _ => by go_simp) (by kernel_rfl) (by kernel_rfl) (fun _ _ d _ _ h => by cases d <;> exact h) ?_; intro S9 hS9; have cH := ((K0.out.ext HX8.out).ext hS9).cell; have cA := ((K1.out.ext HX8.out).ext hS9).cell; have lH := ((K0.out.ext HX8.out).ext hS9).lt; have lA := ((K1.out.ext HX8.out).ext hS9).lt; have cZ := (((HX3.out.trans HX8.out).trans hS9).cell (p := ⟨bz, oz + j, none⟩) hbz).trans HY.out; have lZ : bz < S9.heap.size := Nat.lt_of_lt_of_le hbz ((HX3.out.trans HX8.out).trans hS9).size ; simp only [Nat.reduceAdd, Nat.reduceSub, List.take_succ_cons, List.take_zero, List.take_nil, List.drop_succ_cons, List.drop_zero]; (repeat (go_big_quiet_step (((go_at_call 25; exact quietE (HU2.out _)))))); refine wpQuiet_nil ?_; intro w1 b1 hx1 hb1 hblk1; clear hS9; (try dsimp only); simp only [Act.put, List.setIfInBounds_toArray, List.set_cons_succ, List.set_cons_zero]; (repeat (go_big_quiet_step (fail))); refine wpQuiet_nil ?_; (try dsimp only))
              have c1 := hblk1.cell; have f1 := hblk1.free; have l1 := hblk1.lt
              have hx9 : Ext w8 (((w1.setCell ⟨b1, 0, none⟩ (.bool pa)).setCell ⟨b1, 1, none⟩ (.bool pb)).setCell ⟨b1, 2, none⟩ (.bool pc)) := ((hx1.set (p := ⟨b1, 0, none⟩) hb1 _).set (p := ⟨b1, 1, none⟩) hb1 _).set (p := ⟨b1, 2, none⟩) hb1 _
              have hZ9 : Blk (((w1.setCell ⟨b1, 0, none⟩ (.bool pa)).setCell ⟨b1, 1, none⟩ (.bool pb)).setCell ⟨b1, 2, none⟩ (.bool pc)) b1 #[.bool pa, .bool pb, .bool pc] 27 := by
                have := ((hblk1.set 0 (.bool pa)).set 1 (.bool pb)).set 2 (.bool pc); simpa using this
              have hY9 := HY8.out.ext hx9
              have HX9 := Lib.hid (HX8.out.trans hx9)
              have cY := hY9.cell; have cW := hZ9.cell
              have hE1 : ∀ W, (binOp .neq 27 (.agg #[.bool pa, .bool pb, .bool pc]) (.agg #[.bool pa, .bool pb, .bool pc])).run Try.prog W = .ok (.bool false) W := fun W => by rw [neqBlk, beqD_self]; rfl
              clear hx9 hblk1 hx1 hY9 hZ9
              go_wp2_with fail
              go_roundw
              case rel => exact ⟨j + 1, by omega, by go_num, HX9.out⟩
              case measure => simp [intOf]; omega
            · have hck := fun W => check_any de dl se sl ae al r W
              have hcr := fun W => refCheck_any de dl se sl ae al r W
              generalize chk de dl se sl ae al r = ck at hck hcr
              have HCK := Lib.hid hck; have HCR := Lib.hid hcr; clear hck hcr
              have c0 := (K0.out.ext HXJ.out).cell; have l0 := (K0.out.ext HXJ.out).lt
              go_wp2_with fail
              (refine wp_region_quietE (by kernel_rfl) (by kernel_rfl) ?_; (repeat (go_big_quiet_step ((first | (go_at_call 26; exact quietE (HCK.out _)) | (go_at_call 27; exact quietE (HCR.out _)) | (go_at_call 9; exact quietE (awake_any _)))))); refine wpQuiet_nil ?_; rintro w1 ⟨⟨_, hx1⟩, rfl⟩; (try dsimp only); have hz1 := hx1.size; (try simp only [World.size_alloc, World.size_setCell, World.size_drew, size_drewN] at hz1); obtain ⟨hc1, hf1⟩ := hx1.old (B := w.heap.size) (by (try simp only [World.size_alloc, World.size_setCell, World.size_drew, size_drewN]); omega))
              go_wp2_with fail
              go_ret
              exact ⟨rfl, (HX3.out.trans HXJ.out).trans hx1⟩
          · have hck := fun W => check_any de dl se sl ae al r W
            have hcr := fun W => refCheck_any de dl se sl ae al r W
            generalize chk de dl se sl ae al r = ck at hck hcr
            have HCK := Lib.hid hck; have HCR := Lib.hid hcr; clear hck hcr
            have c0 := (K0.out.ext HXJ.out).cell; have l0 := (K0.out.ext HXJ.out).lt
            go_wp2_with fail
            (refine wp_region_quietE (by kernel_rfl) (by kernel_rfl) ?_; (repeat (go_big_quiet_step ((first | (go_at_call 26; exact quietE (HCK.out _)) | (go_at_call 27; exact quietE (HCR.out _)) | (go_at_call 9; exact quietE (awake_any _)))))); refine wpQuiet_nil ?_; rintro w1 ⟨⟨_, hx1⟩, rfl⟩; (try dsimp only); have hz1 := hx1.size; (try simp only [World.size_alloc, World.size_setCell, World.size_drew, size_drewN] at hz1); obtain ⟨hc1, hf1⟩ := hx1.old (B := w.heap.size) (by (try simp only [World.size_alloc, World.size_setCell, World.size_drew, size_drewN]); omega))
            go_wp2_with fail
            go_ret
            exact ⟨rfl, (HX3.out.trans HXJ.out).trans hx1⟩

end Go.Proofs.Ytdbhneoaibbofaa
