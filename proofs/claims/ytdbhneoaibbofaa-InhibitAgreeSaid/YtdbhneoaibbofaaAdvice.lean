/- Walks of checkNumbers and Advice. Conditions: the advisories read as a slice that is in order, the number is one of theirs. -/
import Derived.Test.YtdbhneoaibbofaaAdv
import Derived.Test.YtdbhneoaibbofaaReg5
import Derived.Test.YtdbhneoaibbofaaAwake
namespace Go.Proofs.Ytdbhneoaibbofaa
set_option linter.unusedSimpArgs false
set_option linter.unusedVariables false
open Go.RowKit

set_option maxHeartbeats 1000000 in
theorem checkNumbers_any (v : Value) (l : List Bnd) (i : Nat) (g : Nat) (w : World) (h : RdBnd w v l) (ha : achk l = 0) (hi : i < l.length) (hg : Blk w g #[.int .i64 i] 3) :
    Calls Try.prog 41 #[v, .slice (some ⟨g, 0, none⟩) 1 1] w fun en w' => en = .returned (.int .i64 0) ∧ Ext w w' := by
  have h0 := h
  obtain ⟨a, cap, rfl, hc, hm, _⟩ := h.get
  have H := Lib.hid h0; have HA := Lib.hid ha; have HG := Lib.hid hg
  clear h h0 ha hg
  have hl6 := achk_len HA.out
  go_enter Try.func41, Try.ntmps41
  go_wp2_with fail
  refine (achk_any _ l _ H.out).mono ?_
  rintro e w1 ⟨rfl, hx1⟩
  rw [HA.out]
  have hG := HG.out.ext hx1
  have c0 := hG.cell
  have HX := Lib.hid hx1
  clear hx1 hG
  go_wp2_with fail
  go_loopw [15] (fun j wr => ∃ k : Nat, k ≤ 1 ∧ j = .int .i64 k ∧ wr = w1) (fun j _ => 1 - (intOf j).toNat)
  case atStart => exact ⟨0, by omega, rfl, rfl⟩
  case round =>
    obtain ⟨k, hk, rfl, rfl⟩ := hrel
    match k, hk with
    | 0, _ =>
      have q1 : (0 : Int) ≤ (i : Int) := by omega
      have q2 : (i : Int) < (l.length : Int) := by omega
      go_wp2_with fail
      go_roundw
      case rel => exact ⟨1, by omega, by go_num, by simp⟩
      case measure => simp [intOf]
    | 1, _ =>
      go_wp2_with fail
      go_ret
      exact ⟨rfl, HX.out⟩
    | k + 2, hk => omega

/-- the advice of advisory number i -/
def advOf (i : Nat) (x : Bnd) : Int × Int × Bool := if i = 0 then (0, 0, false) else if x.1 = 2 then (2, -x.2.2, decide (-x.2.2 ≤ 0)) else (x.1, x.2.1, decide (x.2.1 ≤ 0))

set_option maxHeartbeats 2000000 in
theorem advice_any (v : Value) (l : List Bnd) (i : Nat) (x : Bnd) (w : World) (h : RdBnd w v l) (ha : achk l = 0) (hx : l[i]? = some x) (hb : i ≠ 0 → (x.1 = 1 ∨ x.1 = 2) ∧ -100 ≤ x.2.2 ∧ x.2.2 ≤ 100) :
    Calls Try.prog 29 #[v, .int .i64 i] w fun en w' => en = .returned (.tuple #[.agg #[.int .u8 (advOf i x).1, .int .i64 (advOf i x).2.1, .bool (advOf i x).2.2], .int .i64 0]) ∧ Ext w w' := by
  have h0 := h
  obtain ⟨a, cap, rfl, hc, hm, hr⟩ := h.get
  have hi : i < l.length := (List.getElem?_eq_some_iff.1 hx).1
  obtain ⟨b, off, rfl, hbl, p1, p2, p3⟩ := hr i x hx
  have H := Lib.hid h0; have HA := Lib.hid ha; have HB := Lib.hid hb
  clear h h0 ha hr hb hx
  obtain ⟨s, lo, hi'⟩ := x
  dsimp only at p1 p2 p3
  have P1 := Lib.hid p1; have P2 := Lib.hid p2; have P3 := Lib.hid p3; clear p1 p2 p3
  go_enter Try.func29, Try.ntmps29
  go_wp2_with fail
  have hG := Blk.new (w.alloc (.cells #[.int .u8 0, .int .i64 0, .bool false] 30)) #[.int .i64 i] 3
  rw [World.size_alloc] at hG
  have hR := (Blk.new w #[.int .u8 0, .int .i64 0, .bool false] 30).alloc (.cells #[.int .i64 i] 3)
  have hx0 := ((Ext.refl w).alloc (.cells #[.int .u8 0, .int .i64 0, .bool false] 30)).alloc (.cells #[.int .i64 i] 3)
  refine (checkNumbers_any _ l i (w.heap.size + 1) _ (H.out.ext hx0) HA.out hi hG).mono ?_
  rintro e w1 ⟨rfl, hx1⟩
  have hR1 := hR.ext hx1
  have hX1 := hx0.trans hx1
  have c0 := hR1.cell; have f0 := hR1.free; have l0 := hR1.lt
  have q1 := (hX1.cell (p := ⟨b, off + i * 3, none⟩) hbl).trans P1.out
  have q2 := (hX1.cell (p := ⟨b, off + i * 3 + 1, none⟩) hbl).trans P2.out
  have q3 := (hX1.cell (p := ⟨b, off + i * 3 + 2, none⟩) hbl).trans P3.out
  have hz := hX1.size
  have lb : b < w1.heap.size := by omega
  have HX := Lib.hid hX1; have HR1 := Lib.hid hR1
  have t1 : (0 : Int) ≤ (i : Int) := by omega
  have t2 : (i : Int) < (l.length : Int) := by omega
  clear hG hR hx0 hx1 hX1 hR1
  by_cases hi0 : i = 0
  · have hb1 : ((i : Int) == 0) = true := by simp [hi0]
    have hA : advOf i (s, lo, hi') = (0, 0, false) := by simp [advOf, hi0]
    have HAO := Lib.hid hA; have H0 := Lib.hid hi0; clear hA hi0
    go_wp2_with fail
    refine bodyPost_ret ?_ rfl ⟨rfl, ?_⟩
    · (simp only [HAO.out, results, Try.results29]; go_simp)
    · have hx := HX.out
      (repeat (first | (with_reducible exact Ext.refl _) | (with_reducible assumption) | (with_reducible refine Ext.alloc ?_ _) | ((with_reducible refine Ext.setp ?_ ?_); focus (dsimp only; omega)) | (with_reducible refine Ext.drew ?_) | (with_reducible refine Ext.drewN ?_ _) | (with_reducible refine Ext.trans ?_ (by assumption))))
  · have hb1 : ((i : Int) == 0) = false := by simp [hi0]
    have hB : (s = 1 ∨ s = 2) ∧ -100 ≤ hi' ∧ hi' ≤ 100 := HB.out hi0
    have hneg : wrap64 (-hi') = -hi' := by unfold wrap64; omega
    have HN := Lib.hid hneg; have HBB := Lib.hid hB; have H0 := Lib.hid hi0
    clear hneg hB hi0
    go_wp2_with fail
    (refine wp_region_alloc 10 1 7 30 #[.int .u8 0, .int .i64 0, .bool false]  _ rfl rfl rfl (fun _ _ => by go_simp) (by kernel_rfl) (by kernel_rfl) (fun _ _ d _ _ h => by cases d <;> exact h) ?_; intro S9 hS9; have cH := (hS9.cell (p := ⟨b, off + i * 3, none⟩) lb).trans q1; have cA := (hS9.cell (p := ⟨b, off + i * 3 + 1, none⟩) lb).trans q2; have lA : b < S9.heap.size := Nat.lt_of_lt_of_le lb hS9.size ; simp only [Nat.reduceAdd, Nat.reduceSub, List.take_succ_cons, List.take_zero, List.take_nil, List.drop_succ_cons, List.drop_zero]; (repeat (go_big_quiet_step ((fail)))); refine wpQuiet_nil ?_; intro w1 b1 hx1 hb1 hblk1; clear hS9; (try dsimp only); simp only [Act.put, List.setIfInBounds_toArray, List.set_cons_succ, List.set_cons_zero]; (repeat (go_big_quiet_step (fail))); refine wpQuiet_nil ?_; (try dsimp only))
    have q3' := (hx1.cell (p := ⟨b, off + i * 3 + 2, none⟩) lb).trans q3
    have lb' : b < w1.heap.size := Nat.lt_of_lt_of_le lb hx1.size
    have hne : b ≠ b1 := by omega
    have d0 := hblk1.cell; have d1 := hblk1.free; have d2 := hblk1.lt
    have hR2 := HR1.out.ext hx1
    have e0 := hR2.cell; have e1 := hR2.free; have e2 := hR2.lt
    have hne2 : w.heap.size ≠ b1 := by omega
    have HXX := Lib.hid ((HX.out).trans hx1)
    have hbw : w.heap.size ≤ b1 := by omega
    obtain ⟨hs, hlo, hhi⟩ := HBB.out
    have GB := Lib.hid hblk1; have GR := Lib.hid hR2
    clear hx1 hR2 hblk1 HR1 q1 q2 q3
    have hneg := HN.out
    rcases hs with rfl | rfl
    · have hA : advOf i (1, lo, hi') = (1, lo, decide (lo ≤ 0)) := by simp [advOf, H0.out]
      have HAO := Lib.hid hA; clear hA
      have hB4 : Blk ((((w1.setCell ⟨b1, 0, none⟩ (.int .u8 1)).setCell ⟨b1, 1, none⟩ (.int .i64 lo)).setCell ⟨b1, 2, none⟩ (.bool false)).setCell ⟨b1, 2, none⟩ (.bool (decide (lo ≤ 0)))) b1 #[.int .u8 1, .int .i64 (lo), .bool (decide (lo ≤ 0))] 30 := by
        have := (((GB.out.set 0 (.int .u8 1)).set 1 (.int .i64 lo)).set 2 (.bool false)).set 2 (.bool (decide (lo ≤ 0))); simpa using this
      have hB5 : Blk (((w1.setCell ⟨b1, 0, none⟩ (.int .u8 1)).setCell ⟨b1, 1, none⟩ (.int .i64 lo)).setCell ⟨b1, 2, none⟩ (.bool false)) b1 #[.int .u8 1, .int .i64 (lo), .bool false] 30 := by
        have := ((GB.out.set 0 (.int .u8 1)).set 1 (.int .i64 lo)).set 2 (.bool false); simpa using this
      have hR4 := (((GR.out.setOther (a := ⟨b1, 0, none⟩) hne2 (.int .u8 1)).setOther (a := ⟨b1, 1, none⟩) hne2 (.int .i64 lo)).setOther (a := ⟨b1, 2, none⟩) hne2 (.bool false)).setOther (a := ⟨b1, 2, none⟩) hne2 (.bool (decide (lo ≤ 0)))
      have g4 := hB4.cell; have g5 := hB5.cell; have r4 := hR4.cell; have r5 := hR4.free
      clear hB4 hB5 hR4
      go_wp2_with fail
      refine bodyPost_ret ?_ rfl ⟨rfl, ?_⟩
      · (simp only [HAO.out, results, Try.results29]; go_simp)
      · have hx := HXX.out
        (repeat (first | (with_reducible exact Ext.refl _) | (with_reducible assumption) | (with_reducible refine Ext.alloc ?_ _) | ((with_reducible refine Ext.setp ?_ ?_); focus (dsimp only; omega)) | (with_reducible refine Ext.drew ?_) | (with_reducible refine Ext.drewN ?_ _) | (with_reducible refine Ext.trans ?_ (by assumption))))
    · have hA : advOf i (2, lo, hi') = (2, -hi', decide (-hi' ≤ 0)) := by simp [advOf, H0.out]
      have HAO := Lib.hid hA; clear hA
      have hB4 : Blk (((((w1.setCell ⟨b1, 0, none⟩ (.int .u8 2)).setCell ⟨b1, 1, none⟩ (.int .i64 lo)).setCell ⟨b1, 2, none⟩ (.bool false)).setCell ⟨b1, 1, none⟩ (.int .i64 (-hi'))).setCell ⟨b1, 2, none⟩ (.bool (decide (-hi' ≤ 0)))) b1 #[.int .u8 2, .int .i64 (-hi'), .bool (decide (-hi' ≤ 0))] 30 := by
        have := ((((GB.out.set 0 (.int .u8 2)).set 1 (.int .i64 lo)).set 2 (.bool false)).set 1 (.int .i64 (-hi'))).set 2 (.bool (decide (-hi' ≤ 0))); simpa using this
      have hB5 : Blk ((((w1.setCell ⟨b1, 0, none⟩ (.int .u8 2)).setCell ⟨b1, 1, none⟩ (.int .i64 lo)).setCell ⟨b1, 2, none⟩ (.bool false)).setCell ⟨b1, 1, none⟩ (.int .i64 (-hi'))) b1 #[.int .u8 2, .int .i64 (-hi'), .bool false] 30 := by
        have := (((GB.out.set 0 (.int .u8 2)).set 1 (.int .i64 lo)).set 2 (.bool false)).set 1 (.int .i64 (-hi')); simpa using this
      have hR4 := ((((GR.out.setOther (a := ⟨b1, 0, none⟩) hne2 (.int .u8 2)).setOther (a := ⟨b1, 1, none⟩) hne2 (.int .i64 lo)).setOther (a := ⟨b1, 2, none⟩) hne2 (.bool false)).setOther (a := ⟨b1, 1, none⟩) hne2 (.int .i64 (-hi'))).setOther (a := ⟨b1, 2, none⟩) hne2 (.bool (decide (-hi' ≤ 0)))
      have g4 := hB4.cell; have g5 := hB5.cell; have r4 := hR4.cell; have r5 := hR4.free
      clear hB4 hB5 hR4
      go_wp2_with fail
      refine bodyPost_ret ?_ rfl ⟨rfl, ?_⟩
      · (simp only [HAO.out, results, Try.results29]; go_simp)
      · have hx := HXX.out
        (repeat (first | (with_reducible exact Ext.refl _) | (with_reducible assumption) | (with_reducible refine Ext.alloc ?_ _) | ((with_reducible refine Ext.setp ?_ ?_); focus (dsimp only; omega)) | (with_reducible refine Ext.drew ?_) | (with_reducible refine Ext.drewN ?_ _) | (with_reducible refine Ext.trans ?_ (by assumption))))

end Go.Proofs.Ytdbhneoaibbofaa
