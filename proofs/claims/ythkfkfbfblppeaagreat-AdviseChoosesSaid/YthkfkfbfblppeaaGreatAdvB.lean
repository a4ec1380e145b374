/- Walks of Kind, Advice and Next of advise and of its reference (written by mkadvb.py). Conditions: the advisories read as a slice. -/
import Derived.Test.YthkfkfbfblppeaaGreatGI
import Derived.Test.YthkfkfbfblppeaaGreatReg5
namespace Go.Proofs.YthkfkfbfblppeaaGreat
set_option linter.unusedSimpArgs false
set_option linter.unusedVariables false
open Go.RowKit

/-- What Kind returns. -/
def kindS (l : List Bnd) (a b : Int) : Int × Int := if cn2 l a b ≠ 0 then (0, cn2 l a b) else (chg l a.toNat b.toNat, 0)
/-- The advice of an advisory that is there. -/
def advV (i : Nat) (x : Bnd) : Int × Int × Bool := if i = 0 then (0, 0, false) else if x.1 = 2 then (2, -x.2.2, decide (-x.2.2 ≤ 0)) else (x.1, x.2.1, decide (x.2.1 ≤ 0))
/-- What Advice returns. -/
def advS (l : List Bnd) (b : Int) : (Int × Int × Bool) × Int := if cn1 l b ≠ 0 then ((0, 0, false), cn1 l b) else (advV b.toNat (bAt l b.toNat), 0)
/-- The error of a memory whose advisory is there. -/
def memE (age rev : Int) : Int := if (age < 0 ∨ 1000 < age) ∨ rev < 0 ∨ 100 < rev then 1 else 0
/-- The memory after a change of kind k. -/
def nextV (k age rev b : Int) : Int × Int × Int := (b, if k = 1 then (if age + 1 ≤ 1000 then age + 1 else 1000) else 0, if k = 2 ∨ k = 3 then 0 else if k = 4 then (if rev + 1 ≤ 100 then rev + 1 else 100) else rev)
/-- What Next returns. -/
def nextS (l : List Bnd) (now age rev b : Int) : (Int × Int × Int) × Int :=
  if cn2 l now b ≠ 0 then ((0, 0, 0), cn2 l now b) else if memE age rev ≠ 0 then ((0, 0, 0), memE age rev)
  else (nextV (chg l now.toNat b.toNat) age rev b, 0)

theorem cn1_0 {l : List Bnd} {n : Int} (h : cn1 l n = 0) : achk l = 0 ∧ ∃ i : Nat, n = i ∧ i < l.length := by
  unfold cn1 at h
  split at h
  · exact absurd h ‹_›
  · rename_i h1
    split at h
    · rename_i h2; exact ⟨by simpa using h1, n.toNat, by omega, by omega⟩
    · cases h
theorem cn2_0 {l : List Bnd} {n m : Int} (h : cn2 l n m = 0) : achk l = 0 ∧ (∃ i : Nat, n = i ∧ i < l.length) ∧ ∃ j : Nat, m = j ∧ j < l.length := by
  unfold cn2 at h
  split at h
  · exact absurd h ‹_›
  · rename_i h1
    split at h
    · rename_i h2; exact ⟨by simpa using h1, ⟨n.toNat, by omega, by omega⟩, m.toNat, by omega, by omega⟩
    · cases h
theorem cn1_a {l : List Bnd} {n : Int} (h : achk l ≠ 0) : cn1 l n = achk l := if_pos h
theorem cn1_8 {l : List Bnd} {n : Int} (h : achk l = 0) (h2 : ¬ (0 ≤ n ∧ n < l.length)) : cn1 l n = 8 := by unfold cn1; rw [if_neg (by simp [h]), if_neg h2]
theorem cn1_ok {l : List Bnd} {n : Int} (h : achk l = 0) (h2 : 0 ≤ n ∧ n < l.length) : cn1 l n = 0 := by unfold cn1; rw [if_neg (by simp [h]), if_pos h2]
theorem cn2_a {l : List Bnd} {n m : Int} (h : achk l ≠ 0) : cn2 l n m = achk l := if_pos h
theorem cn2_8 {l : List Bnd} {n m : Int} (h : achk l = 0) (h2 : ¬ ((0 ≤ n ∧ n < l.length) ∧ 0 ≤ m ∧ m < l.length)) : cn2 l n m = 8 := by unfold cn2; rw [if_neg (by simp [h]), if_neg h2]
theorem cn2_ok {l : List Bnd} {n m : Int} (h : achk l = 0) (h2 : (0 ≤ n ∧ n < l.length) ∧ 0 ≤ m ∧ m < l.length) : cn2 l n m = 0 := by unfold cn2; rw [if_neg (by simp [h]), if_pos h2]
theorem kindS_e {l : List Bnd} {n m : Int} (h : cn2 l n m ≠ 0) : kindS l n m = (0, cn2 l n m) := if_pos h
theorem kindS_0 {l : List Bnd} {i j : Nat} (h : achk l = 0) (hi : i < l.length) (hj : j < l.length) : kindS l i j = (chg l i j, 0) := by
  unfold kindS; rw [cn2_ok h (by omega), if_neg (by decide), Int.toNat_natCast, Int.toNat_natCast]
theorem kindS_8 {l : List Bnd} {n m : Int} (h : achk l = 0) (h2 : ¬ ((0 ≤ n ∧ n < l.length) ∧ 0 ≤ m ∧ m < l.length)) : kindS l n m = (0, 8) := by rw [kindS_e (by rw [cn2_8 h h2]; decide), cn2_8 h h2]
theorem kindS_a {l : List Bnd} {n m : Int} (h : achk l ≠ 0) : kindS l n m = (0, achk l) := by rw [kindS_e (by rw [cn2_a h]; exact h), cn2_a h]
theorem firstErr_all : ∀ {l : List Bnd}, firstErr l = 0 → ∀ x ∈ l, bnd1 x = 0
  | [], _, x, hx => by cases hx
  | y :: r, h, x, hx => by
    unfold firstErr at h
    split at h
    · exact absurd h ‹_›
    · rename_i h1
      rcases List.mem_cons.1 hx with rfl | hx
      · simpa using h1
      · exact firstErr_all h x hx
theorem achk_at {l : List Bnd} (h : achk l = 0) {i : Nat} (hi : i ≠ 0) (hl : i < l.length) : ((bAt l i).1 = 1 ∨ (bAt l i).1 = 2) ∧ (bAt l i).2.1 ≤ (bAt l i).2.2 ∧ -100 ≤ (bAt l i).2.1 ∧ (bAt l i).2.2 ≤ 100 := by
  unfold achk at h
  split at h
  · cases h
  · split at h
    · cases h
    · have hm : bAt l i ∈ l.drop 1 := by
        refine List.mem_of_getElem? (i := i - 1) ?_
        rw [List.getElem?_drop, show 1 + (i - 1) = i by omega]
        exact bAt_some hl
      have h1 := firstErr_all h _ hm
      unfold bnd1 at h1
      split at h1
      · cases h1
      · split at h1
        · cases h1
        · omega

set_option maxHeartbeats 1000000 in
theorem kind_any (v : Value) (l : List Bnd) (n m : Int) (w : World) (h : RdBnd w v l) :
    Calls Tryz.prog 79 #[v, .int .i64 n, .int .i64 m] w fun e w' => e = .returned (.tuple #[.int .u8 (kindS l n m).1, .int .i64 (kindS l n m).2]) ∧ Ext w w' := by
  have h0 := h
  obtain ⟨a, cap, rfl, hc, hm, _⟩ := h.get
  have H := Lib.hid h0
  clear h h0
  have hck := fun W g h1 h2 => checkNumbers2_any (.slice a l.length cap) l n m g W h1 h2
  have hks : kindS l n m = if cn2 l n m ≠ 0 then (0, cn2 l n m) else (chg l n.toNat m.toNat, 0) := rfl
  have hz := @cn2_0 l n m
  obtain ⟨c, hcc⟩ : ∃ x, x = cn2 l n m := ⟨_, rfl⟩
  rw [← hcc] at hck hks hz
  have HK := Lib.hid hck; have HS := Lib.hid hks
  clear hck hks hcc
  have B0 := Lib.hid (Blk.new w #[.int .i64 n, .int .i64 m] 3)
  have X0 := Lib.hid ((Ext.refl w).alloc (.cells #[.int .i64 n, .int .i64 m] 3))
  by_cases h0 : c = 0
  · subst h0
    obtain ⟨-, ⟨i, rfl, hi⟩, j, rfl, hj⟩ := hz rfl
    have hch := fun W h => change_any (.slice a l.length cap) l i j W h hi hj
    have hks := HS.out
    rw [if_neg (by decide), Int.toNat_natCast, Int.toNat_natCast] at hks
    obtain ⟨K, hK⟩ : ∃ x, x = chg l i j := ⟨_, rfl⟩
    rw [← hK] at hch hks
    have HS2 := Lib.hid hks; have HCH := Lib.hid hch
    clear hks hch hK HS hz hi hj
    go_enter Tryz.func79, Tryz.ntmps79
    go_wp2_with fail
    refine (HK.out _ w.heap.size (H.out.ext X0.out) B0.out).mono ?_
    rintro e w1 ⟨rfl, hx1⟩
    have X1 := Lib.hid (X0.out.trans hx1)
    clear hx1
    go_wp2_with fail
    refine (HCH.out _ (H.out.ext X1.out)).mono ?_
    rintro e w2 ⟨rfl, hx2⟩
    have X2 := Lib.hid (X1.out.trans hx2)
    clear hx2
    go_wp2_with fail
    go_ret2
    exact ⟨by rw [HS2.out]; rfl, X2.out⟩
  · have hb : (c != 0) = true := by simpa using h0
    have hks := HS.out
    rw [if_pos h0] at hks
    have HS2 := Lib.hid hks
    clear hks HS h0 hz
    go_enter Tryz.func79, Tryz.ntmps79
    go_wp2_with fail
    refine (HK.out _ w.heap.size (H.out.ext X0.out) B0.out).mono ?_
    rintro e w1 ⟨rfl, hx1⟩
    have X1 := Lib.hid (X0.out.trans hx1)
    clear hx1
    go_wp2_with fail
    go_ret2
    exact ⟨by rw [HS2.out]; rfl, X1.out⟩

set_option maxHeartbeats 2000000 in
theorem adviceOk_any (v : Value) (l : List Bnd) (i : Nat) (x : Bnd) (w : World) (h : RdBnd w v l) (ha : achk l = 0) (hx : l[i]? = some x) (hb : i ≠ 0 → (x.1 = 1 ∨ x.1 = 2) ∧ -100 ≤ x.2.2 ∧ x.2.2 ≤ 100) :
    Calls Tryz.prog 80 #[v, .int .i64 i] w fun en w' => en = .returned (.tuple #[.agg #[.int .u8 (advV i x).1, .int .i64 (advV i x).2.1, .bool (advV i x).2.2], .int .i64 0]) ∧ Ext w w' := by
  have h0 := h
  obtain ⟨a, cap, rfl, hc, hm, hr⟩ := h.get
  have hi : i < l.length := (List.getElem?_eq_some_iff.1 hx).1
  obtain ⟨b, off, rfl, hbl, p1, p2, p3⟩ := hr i x hx
  have H := Lib.hid h0; have HA := Lib.hid ha; have HB := Lib.hid hb
  clear h h0 ha hr hb hx
  obtain ⟨s, lo, hi'⟩ := x
  dsimp only at p1 p2 p3
  have P1 := Lib.hid p1; have P2 := Lib.hid p2; have P3 := Lib.hid p3; clear p1 p2 p3
  go_enter Tryz.func80, Tryz.ntmps80
  go_wp2_with fail
  have hG := Blk.new (w.alloc (.cells #[.int .u8 0, .int .i64 0, .bool false] 130)) #[.int .i64 i] 3
  rw [World.size_alloc] at hG
  have hR := (Blk.new w #[.int .u8 0, .int .i64 0, .bool false] 130).alloc (.cells #[.int .i64 i] 3)
  have hx0 := ((Ext.refl w).alloc (.cells #[.int .u8 0, .int .i64 0, .bool false] 130)).alloc (.cells #[.int .i64 i] 3)
  have hc0 : cn1 l i = 0 := cn1_ok HA.out (by omega)
  refine (checkNumbers1_any _ l i (w.heap.size + 1) _ (H.out.ext hx0) hG).mono ?_
  rintro e w1 ⟨rfl, hx1⟩
  rw [hc0]
  have hR1 := hR.ext hx1
  have hX1 := hx0.trans hx1
  have c0 := hR1.cell; have f0 := hR1.free; have l0 := hR1.lt
  have q1 := (hX1.cell (p := ⟨b, off + i * 3, none⟩) hbl).trans P1.out
  have q2 := (hX1.cell (p := ⟨b, off + i * 3 + 1, none⟩) hbl).trans P2.out
  have q3 := (hX1.cell (p := ⟨b, off + i * 3 + 2, none⟩) hbl).trans P3.out
  have hz := hX1.size
  have lb : b < w1.heap.size := by omega
  have HX := Lib.hid hX1; have HR1 := Lib.hid hR1
  have t1 : (0 : Int) ≤ (i : Int) := by omega
  have t2 : (i : Int) < (l.length : Int) := by omega
  clear hG hR hx0 hx1 hX1 hR1
  by_cases hi0 : i = 0
  · have hb1 : ((i : Int) == 0) = true := by simp [hi0]
    have hA : advV i (s, lo, hi') = (0, 0, false) := by simp [advV, hi0]
    have HAO := Lib.hid hA; have H0 := Lib.hid hi0; clear hA hi0
    go_wp2_with fail
    refine bodyPost_ret ?_ rfl ⟨rfl, ?_⟩
    · (simp only [HAO.out, results, Tryz.results80]; go_simp)
    · have hx := HX.out
      (repeat (first | (with_reducible exact Ext.refl _) | (with_reducible assumption) | (with_reducible refine Ext.alloc ?_ _) | ((with_reducible refine Ext.setp ?_ ?_); focus (dsimp only; omega)) | (with_reducible refine Ext.drew ?_) | (with_reducible refine Ext.drewN ?_ _) | (with_reducible refine Ext.trans ?_ (by assumption))))
  · have hb1 : ((i : Int) == 0) = false := by simp [hi0]
    have hB : (s = 1 ∨ s = 2) ∧ -100 ≤ hi' ∧ hi' ≤ 100 := HB.out hi0
    have hneg : wrap64 (-hi') = -hi' := by unfold wrap64; omega
    have HN := Lib.hid hneg; have HBB := Lib.hid hB; have H0 := Lib.hid hi0
    clear hneg hB hi0
    go_wp2_with fail
    (refine wp_region_alloc 10 1 7 130 #[.int .u8 0, .int .i64 0, .bool false]  _ rfl rfl rfl (fun _ _ => by go_simp) (by kernel_rfl) (by kernel_rfl) (fun _ _ d _ _ h => by cases d <;> exact h) ?_; intro S9 hS9; have cH := (hS9.cell (p := ⟨b, off + i * 3, none⟩) lb).trans q1; have cA := (hS9.cell (p := ⟨b, off + i * 3 + 1, none⟩) lb).trans q2; have lA : b < S9.heap.size := Nat.lt_of_lt_of_le lb hS9.size ; simp only [Nat.reduceAdd, Nat.reduceSub, List.take_succ_cons, List.take_zero, List.take_nil, List.drop_succ_cons, List.drop_zero]; (repeat (go_big_quiet_step ((fail)))); refine wpQuiet_nil ?_; intro w1 b1 hx1 hb1 hblk1; clear hS9; (try dsimp only); simp only [Act.put, List.setIfInBounds_toArray, List.set_cons_succ, List.set_cons_zero]; (repeat (go_big_quiet_step (fail))); refine wpQuiet_nil ?_; (try dsimp only))
    have q3' := (hx1.cell (p := ⟨b, off + i * 3 + 2, none⟩) lb).trans q3
    have lb' : b < w1.heap.size := Nat.lt_of_lt_of_le lb hx1.size
    have hne : b ≠ b1 := by omega
    have d0 := hblk1.cell; have d1 := hblk1.free; have d2 := hblk1.lt
    have hR2 := HR1.out.ext hx1
    have e0 := hR2.cell; have e1 := hR2.free; have e2 := hR2.lt
    have hne2 : w.heap.size ≠ b1 := by omega
    have HXX := Lib.hid ((HX.out).trans hx1)
    have hbw : w.heap.size ≤ b1 := by omega
    obtain ⟨hs, hlo, hhi⟩ := HBB.out
    have GB := Lib.hid hblk1; have GR := Lib.hid hR2
    clear hx1 hR2 hblk1 HR1 q1 q2 q3
    have hneg := HN.out
    rcases hs with rfl | rfl
    · have hA : advV i (1, lo, hi') = (1, lo, decide (lo ≤ 0)) := by simp [advV, H0.out]
      have HAO := Lib.hid hA; clear hA
      have hB4 : Blk ((((w1.setCell ⟨b1, 0, none⟩ (.int .u8 1)).setCell ⟨b1, 1, none⟩ (.int .i64 lo)).setCell ⟨b1, 2, none⟩ (.bool false)).setCell ⟨b1, 2, none⟩ (.bool (decide (lo ≤ 0)))) b1 #[.int .u8 1, .int .i64 (lo), .bool (decide (lo ≤ 0))] 130 := by
        have := (((GB.out.set 0 (.int .u8 1)).set 1 (.int .i64 lo)).set 2 (.bool false)).set 2 (.bool (decide (lo ≤ 0))); simpa using this
      have hB5 : Blk (((w1.setCell ⟨b1, 0, none⟩ (.int .u8 1)).setCell ⟨b1, 1, none⟩ (.int .i64 lo)).setCell ⟨b1, 2, none⟩ (.bool false)) b1 #[.int .u8 1, .int .i64 (lo), .bool false] 130 := by
        have := ((GB.out.set 0 (.int .u8 1)).set 1 (.int .i64 lo)).set 2 (.bool false); simpa using this
      have hR4 := (((GR.out.setOther (a := ⟨b1, 0, none⟩) hne2 (.int .u8 1)).setOther (a := ⟨b1, 1, none⟩) hne2 (.int .i64 lo)).setOther (a := ⟨b1, 2, none⟩) hne2 (.bool false)).setOther (a := ⟨b1, 2, none⟩) hne2 (.bool (decide (lo ≤ 0)))
      have g4 := hB4.cell; have g5 := hB5.cell; have r4 := hR4.cell; have r5 := hR4.free
      clear hB4 hB5 hR4
      go_wp2_with fail
      refine bodyPost_ret ?_ rfl ⟨rfl, ?_⟩
      · (simp only [HAO.out, results, Tryz.results80]; go_simp)
      · have hx := HXX.out
        (repeat (first | (with_reducible exact Ext.refl _) | (with_reducible assumption) | (with_reducible refine Ext.alloc ?_ _) | ((with_reducible refine Ext.setp ?_ ?_); focus (dsimp only; omega)) | (with_reducible refine Ext.drew ?_) | (with_reducible refine Ext.drewN ?_ _) | (with_reducible refine Ext.trans ?_ (by assumption))))
    · have hA : advV i (2, lo, hi') = (2, -hi', decide (-hi' ≤ 0)) := by simp [advV, H0.out]
      have HAO := Lib.hid hA; clear hA
      have hB4 : Blk (((((w1.setCell ⟨b1, 0, none⟩ (.int .u8 2)).setCell ⟨b1, 1, none⟩ (.int .i64 lo)).setCell ⟨b1, 2, none⟩ (.bool false)).setCell ⟨b1, 1, none⟩ (.int .i64 (-hi'))).setCell ⟨b1, 2, none⟩ (.bool (decide (-hi' ≤ 0)))) b1 #[.int .u8 2, .int .i64 (-hi'), .bool (decide (-hi' ≤ 0))] 130 := by
        have := ((((GB.out.set 0 (.int .u8 2)).set 1 (.int .i64 lo)).set 2 (.bool false)).set 1 (.int .i64 (-hi'))).set 2 (.bool (decide (-hi' ≤ 0))); simpa using this
      have hB5 : Blk ((((w1.setCell ⟨b1, 0, none⟩ (.int .u8 2)).setCell ⟨b1, 1, none⟩ (.int .i64 lo)).setCell ⟨b1, 2, none⟩ (.bool false)).setCell ⟨b1, 1, none⟩ (.int .i64 (-hi'))) b1 #[.int .u8 2, .int .i64 (-hi'), .bool false] 130 := by
        have := (((GB.out.set 0 (.int .u8 2)).set 1 (.int .i64 lo)).set 2 (.bool false)).set 1 (.int .i64 (-hi')); simpa using this
      have hR4 := ((((GR.out.setOther (a := ⟨b1, 0, none⟩) hne2 (.int .u8 2)).setOther (a := ⟨b1, 1, none⟩) hne2 (.int .i64 lo)).setOther (a := ⟨b1, 2, none⟩) hne2 (.bool false)).setOther (a := ⟨b1, 1, none⟩) hne2 (.int .i64 (-hi'))).setOther (a := ⟨b1, 2, none⟩) hne2 (.bool (decide (-hi' ≤ 0)))
      have g4 := hB4.cell; have g5 := hB5.cell; have r4 := hR4.cell; have r5 := hR4.free
      clear hB4 hB5 hR4
      go_wp2_with fail
      refine bodyPost_ret ?_ rfl ⟨rfl, ?_⟩
      · (simp only [HAO.out, results, Tryz.results80]; go_simp)
      · have hx := HXX.out
        (repeat (first | (with_reducible exact Ext.refl _) | (with_reducible assumption) | (with_reducible refine Ext.alloc ?_ _) | ((with_reducible refine Ext.setp ?_ ?_); focus (dsimp only; omega)) | (with_reducible refine Ext.drew ?_) | (with_reducible refine Ext.drewN ?_ _) | (with_reducible refine Ext.trans ?_ (by assumption))))


theorem advS_e {l : List Bnd} {n : Int} (h : cn1 l n ≠ 0) : advS l n = ((0, 0, false), cn1 l n) := if_pos h
theorem advS_0 {l : List Bnd} {i : Nat} (h : achk l = 0) (hi : i < l.length) : advS l i = (advV i (bAt l i), 0) := by
  unfold advS; rw [cn1_ok h (by omega), if_neg (by decide), Int.toNat_natCast]
theorem advS_8 {l : List Bnd} {n : Int} (h : achk l = 0) (h2 : ¬ (0 ≤ n ∧ n < l.length)) : advS l n = ((0, 0, false), 8) := by rw [advS_e (by rw [cn1_8 h h2]; decide), cn1_8 h h2]
theorem advS_a {l : List Bnd} {n : Int} (h : achk l ≠ 0) : advS l n = ((0, 0, false), achk l) := by rw [advS_e (by rw [cn1_a h]; exact h), cn1_a h]

/-- The value of an advice. -/
def advW (x : Int × Int × Bool) : Value := .agg #[.int .u8 x.1, .int .i64 x.2.1, .bool x.2.2]

set_option maxHeartbeats 1000000 in
theorem adv_any (v : Value) (l : List Bnd) (n : Int) (w : World) (h : RdBnd w v l) :
    Calls Tryz.prog 80 #[v, .int .i64 n] w fun e w' => e = .returned (.tuple #[advW (advS l n).1, .int .i64 (advS l n).2]) ∧ Ext w w' := by
  by_cases h0 : cn1 l n = 0
  · obtain ⟨hac, i, rfl, hi⟩ := cn1_0 h0
    rw [advS_0 hac hi]
    exact adviceOk_any v l i _ w h hac (bAt_some hi) (fun h0 => by have := achk_at hac h0 hi; exact ⟨this.1, by omega, this.2.2.2⟩)
  · rw [advS_e h0]
    have h1 := h
    obtain ⟨a, cap, rfl, hc, hm, _⟩ := h.get
    have H := Lib.hid h1
    clear h h1
    have hck := fun W g h1 h2 => checkNumbers1_any (.slice a l.length cap) l n g W h1 h2
    obtain ⟨c, hcc⟩ : ∃ x, x = cn1 l n := ⟨_, rfl⟩
    rw [← hcc] at hck h0 ⊢
    have hb : (c != 0) = true := by simpa using h0
    have HK := Lib.hid hck
    clear hck hcc h0
    have hG := Blk.new (w.alloc (.cells #[.int .u8 0, .int .i64 0, .bool false] 130)) #[.int .i64 n] 3
    rw [World.size_alloc] at hG
    have hR := (Blk.new w #[.int .u8 0, .int .i64 0, .bool false] 130).alloc (.cells #[.int .i64 n] 3)
    have hx0 := ((Ext.refl w).alloc (.cells #[.int .u8 0, .int .i64 0, .bool false] 130)).alloc (.cells #[.int .i64 n] 3)
    have HG := Lib.hid hG; have HR := Lib.hid hR; have HX := Lib.hid hx0
    clear hG hR hx0
    go_enter Tryz.func80, Tryz.ntmps80
    go_wp2_with fail
    refine (HK.out _ (w.heap.size + 1) (H.out.ext HX.out) HG.out).mono ?_
    rintro e w1 ⟨rfl, hx1⟩
    have HR1 := Lib.hid (HR.out.ext hx1)
    have HX1 := Lib.hid (HX.out.trans hx1)
    clear hx1
    have c0 := HR1.out.cell; have f0 := HR1.out.free; have l0 := HR1.out.lt
    go_wp2_with fail
    refine bodyPost_ret ?_ rfl ⟨rfl, ?_⟩
    · (simp only [advW, results, Tryz.results80]; go_simp)
    · have hx := HX1.out
      (repeat (first | (with_reducible exact Ext.refl _) | (with_reducible assumption) | (with_reducible refine Ext.alloc ?_ _) | ((with_reducible refine Ext.setp ?_ ?_); focus (dsimp only; omega)) | (with_reducible refine Ext.drew ?_) | (with_reducible refine Ext.drewN ?_ _) | (with_reducible refine Ext.trans ?_ (by assumption))))

end Go.Proofs.YthkfkfbfblppeaaGreat
