/- Part of the proof of imatL_holds: what the row needs of InK. Conditions: as each theorem states. -/
import Derived.Test.YthkfkfbfblppeaaGreatSwInJ
import Derived.Test.YthkfkfbfblppeaaGreatSwGL
import Derived.Test.YthkfkfbfblppeaaGreatSwKit
import Derived.Test.YthkfkfbfblppeaaGreatSwEach
import Derived.Test.YthkfkfbfblppeaaGreatSwAdvO
namespace Go.Proofs.YthkfkfbfblppeaaGreat
set_option linter.unusedSimpArgs false
set_option linter.unusedVariables false
open Go.RowKit
def g7 : List (List Int) := [[0, 10], [5, 6, 8]]
def r7 (n : Int) : RR := ⟨false, [n], []⟩
def s7 (p q : Int) : RR := ⟨false, [p], [q]⟩
def v7 : List RR := [zR, r7 10, r7 20, r7 30, r7 40, r7 50]
def wa7 : List (Nat × RR) := [(1, s7 3 10), (2, s7 3 10), (4, s7 1 5), (5, s7 1 5)]
theorem k7_verts : vertsS g7 = (6, 0) := by kernel_rfl
theorem k7_place : placeS g7 4 = ([1, 1], 0) := by kernel_rfl
theorem k7_point : pointS g7 4 = ([10, 6], 0) := by kernel_rfl
theorem k7_w1 : weightsS g7 [4, 7] = (wa7, 0) := by kernel_rfl
theorem k7_w2 : weightsS g7 [-3, 100] = ([(2, r7 1)], 0) := by kernel_rfl
theorem k7_val : valueS g7 v7 [4, 7] = (r7 27, 0) := by kernel_rfl
theorem k7_of (n : Int) (h : n = 1 ∨ n = 10 ∨ n = 20 ∨ n = 30 ∨ n = 40 ∨ n = 50 ∨ n = 27) : (ofR n 1).1 = r7 n := by
  rcases h with rfl | rfl | rfl | rfl | rfl | rfl | rfl <;> kernel_rfl
theorem k7_of0 : (ofR 0 1).1 = zR := by kernel_rfl
theorem k7_of3 : (ofR 3 10).1 = s7 3 10 := by kernel_rfl
theorem k7_of1 : (ofR 1 5).1 = s7 1 5 := by kernel_rfl
theorem rdI_blk {w : World} {b : Nat} {t : TypeId} (l : List Int) (n : Nat) (h : Blk w b (l.map (Value.int .i64)).toArray t) (hn : l.length = n) (hs : l.length ≤ 1000) : RdI .i64 w (.slice (some ⟨b, 0, none⟩) n n) l := by
  subst hn
  refine ⟨some ⟨b, 0, none⟩, l.length, by simp, by simp, by omega, fun i hi => ?_⟩
  simp only [List.length_map] at hi
  exact ⟨b, 0, rfl, h.lt, by rw [h.cell]; simp [hi]⟩
theorem rdG_two {W : World} {b b1 b2 : Nat} {t t1 t2 : TypeId} (l1 l2 : List Int) (n1 n2 : Nat) (h1 : Blk W b1 (l1.map (Value.int .i64)).toArray t1) (h2 : Blk W b2 (l2.map (Value.int .i64)).toArray t2) (h : Blk W b #[.slice (some ⟨b1, 0, none⟩) n1 n1, .slice (some ⟨b2, 0, none⟩) n2 n2] t) (e1 : l1.length = n1) (e2 : l2.length = n2) (s1 : l1.length ≤ 1000) (s2 : l2.length ≤ 1000) : RdG W (.slice (some ⟨b, 0, none⟩) 2 2) [l1, l2] := by
  have r1 := rdI_blk l1 n1 h1 e1 s1
  have r2 := rdI_blk l2 n2 h2 e2 s2
  subst e1 e2
  refine ⟨_, _, rfl, Nat.le_refl _, by decide, fun i hi => ?_⟩
  match i, hi with
  | 0, _ => exact ⟨b, 0, _, _, rfl, h.lt, h.cell 0, r1⟩
  | 1, _ => exact ⟨b, 0, _, _, rfl, h.lt, h.cell 1, r2⟩
theorem bd7 (l : List Int) (h : ∀ x ∈ l, -9223372036854775808 ≤ x ∧ x ≤ 9223372036854775807) : ∀ i, i < l.length → -9223372036854775808 ≤ l.getD i 0 ∧ l.getD i 0 ≤ 9223372036854775807 := fun i hi => by
  rw [List.getD_eq_getElem?_getD, List.getElem?_eq_getElem hi]
  exact h _ (List.getElem_mem hi)
theorem lim7 (n : Int) (h : 0 < n ∧ n < 4294967296) : LimR (r7 n) := by
  constructor <;> intro x hx <;> simp [r7] at hx <;> omega
theorem v7_lim : LimL v7 := fun i hi => by
  match i, hi with
  | 0, _ => exact zR_lim
  | 1, _ => exact lim7 _ (by decide)
  | 2, _ => exact lim7 _ (by decide)
  | 3, _ => exact lim7 _ (by decide)
  | 4, _ => exact lim7 _ (by decide)
  | 5, _ => exact lim7 _ (by decide)
theorem of7_k (p q : Int) (r : RR) (h : (ofR p q).1 = r) (w : World) (h0 : -9223372036854775808 ≤ p ∧ p ≤ 9223372036854775807 := by decide) (h1 : -9223372036854775808 ≤ q ∧ q ≤ 9223372036854775807 := by decide) :
    Calls Tryz.prog 64 #[.int .i64 p, .int .i64 q] w fun e w' => (∃ v, e = .returned v ∧ NewR w w' v r) ∧ Ext w w' := by
  subst h
  exact of7_any p q w h0.1 h0.2 h1.1 h1.2
theorem rdR_two7 {w : World} {b x y : Value} {r : RR} (h : RdR w (.agg #[b, x, y]) r) : RdI .u32 w x r.num ∧ RdI .u32 w y r.den := by
  obtain ⟨vn, vd, e, h1, h2⟩ := h
  injection e with e
  simp only [Array.mk.injEq, List.cons.injEq, and_true] at e
  obtain ⟨_, rfl, rfl⟩ := e
  exact ⟨h1, h2⟩
theorem getD_bool7 {o : Option Value} {b : Bool} (h : o.getD undef = .bool b) : o = some (.bool b) := by
  cases o with
  | none => cases h
  | some v => exact congrArg some h
theorem RdWs.shape {w : World} {v : Value} {l : List (Nat × RR)} (h : RdWs w v l) : ∃ a c, v = .slice a l.length c := by
  obtain ⟨a, c, h, _⟩ := h
  exact ⟨a, c, h⟩
theorem rdWs_blk {w : World} {b : Nat} {c : Array Value} {t : TypeId} (h : Blk w b c t) (l : List (Nat × RR)) (n : Nat) (hn : l.length = n) (hk : n ≤ 1000)
    (he : ∀ (i : Nat) y, l[i]? = some y → ∃ a1 c1 a2 c2, c[i * 4]? = some (.int .i64 (y.1 : Nat)) ∧ c[i * 4 + 1]? = some (.bool y.2.neg) ∧ c[i * 4 + 2]? = some (.slice a1 y.2.num.length c1) ∧ c[i * 4 + 3]? = some (.slice a2 y.2.den.length c2) ∧ RdR w (.agg #[.bool y.2.neg, .slice a1 y.2.num.length c1, .slice a2 y.2.den.length c2]) y.2) : RdWs w (.slice (some ⟨b, 0, none⟩) n n) l := by
  subst hn
  refine ⟨_, _, rfl, Nat.le_refl _, by omega, fun i y hi => ?_⟩
  obtain ⟨a1, c1, a2, c2, e1, e2, e3, e4, e5⟩ := he i y hi
  exact ⟨b, 0, a1, c1, a2, c2, rfl, h.lt, by rw [Nat.zero_add, h.cell]; exact e1, by rw [Nat.zero_add, h.cell]; exact e2, by rw [Nat.zero_add, h.cell]; exact e3, by rw [Nat.zero_add, h.cell]; exact e4, e5⟩
def awkJ (pa qa la : Option Addr) (lc : Nat) (ma : Option Addr) (mc wn : Nat) (y1 : Option Addr) (y2 : Nat) (y3 : Option Addr) (y4 : Nat) (j : Nat) (v : Value) (W : World) : Prop :=
  match j with
  | 0 => v = .int .i64 6
  | 1 => v = .bool true
  | 2 => v = .bool true
  | 3 => v = .int .i64 0
  | 4 => v = .bool true
  | 5 => v = .bool true
  | 6 => v = .bool true
  | 7 => v = .int .i64 0
  | 8 => v = .bool true
  | 9 => v = .bool true
  | 10 => v = .bool true
  | 11 => v = .slice pa 2 2
  | 12 => ∃ b, v = .slice (some ⟨b, 0, none⟩) 2 2 ∧ Blk W b #[.int .i64 1, .int .i64 1] 3
  | 13 => v = .bool true
  | 14 => v = .bool true
  | 15 => v = .bool true
  | 16 => v = .int .i64 0
  | 17 => v = .bool true
  | 18 => v = .bool true
  | 19 => v = .bool true
  | 20 => v = .slice qa 2 2
  | 21 => ∃ b, v = .slice (some ⟨b, 0, none⟩) 2 2 ∧ Blk W b #[.int .i64 10, .int .i64 6] 3
  | 22 => v = .bool true
  | 23 => v = .bool true
  | 24 => v = .bool true
  | 25 => v = .int .i64 0
  | 26 => v = .bool true
  | 27 => v = .bool true
  | 28 => v = .bool true
  | 29 => v = .slice la 4 lc
  | 30 => v = .slice (some ⟨wn, 0, none⟩) 4 4
  | 31 => v = .bool true
  | 32 => v = .bool true
  | 33 => v = .bool true
  | 34 => v = .int .i64 0
  | 35 => v = .bool true
  | 36 => v = .bool true
  | 37 => v = .bool true
  | 38 => v = .slice ma 1 mc
  | 39 => ∃ s1 s2 s3 s4, v = .agg #[.bool (r7 1).neg, .slice s1 (r7 1).num.length s2, .slice s3 (r7 1).den.length s4] ∧ RdR W (.agg #[.bool (r7 1).neg, .slice s1 (r7 1).num.length s2, .slice s3 (r7 1).den.length s4]) (r7 1)
  | 40 => ∃ s1 s2 s3 s4, v = .agg #[.int .i64 2, .bool (r7 1).neg, .slice s1 (r7 1).num.length s2, .slice s3 (r7 1).den.length s4] ∧ RdR W (.agg #[.bool (r7 1).neg, .slice s1 (r7 1).num.length s2, .slice s3 (r7 1).den.length s4]) (r7 1)
  | 41 => ∃ b, v = .slice (some ⟨b, 0, none⟩) 1 1 ∧ RdWs W (.slice (some ⟨b, 0, none⟩) 1 1) [(2, r7 1)]
  | 42 => v = .bool true
  | 43 => v = .bool true
  | 44 => v = .bool true
  | 45 => v = .int .i64 0
  | 46 => v = .bool true
  | 47 => v = .bool true
  | 48 => v = .bool true
  | 49 => v = .agg #[.bool (r7 27).neg, .slice y1 (r7 27).num.length y2, .slice y3 (r7 27).den.length y4]
  | 50 => RdR W v (r7 27)
  | 51 => v = .bool true
  | 52 => v = .bool true
  | 53 => v = .bool true
  | _ => True
theorem awkJ_ext {pa qa la : Option Addr} {lc : Nat} {ma : Option Addr} {mc wn : Nat} {y1 : Option Addr} {y2 : Nat} {y3 : Option Addr} {y4 : Nat} {j : Nat} {v : Value} {W W' : World} (h : awkJ pa qa la lc ma mc wn y1 y2 y3 y4 j v W) (x : Ext W W') : awkJ pa qa la lc ma mc wn y1 y2 y3 y4 j v W' := by
  match j, h with
  | 0, h => exact h
  | 1, h => exact h
  | 2, h => exact h
  | 3, h => exact h
  | 4, h => exact h
  | 5, h => exact h
  | 6, h => exact h
  | 7, h => exact h
  | 8, h => exact h
  | 9, h => exact h
  | 10, h => exact h
  | 11, h => exact h
  | 12, ⟨b, e, h⟩ => exact ⟨b, e, h.ext x⟩
  | 13, h => exact h
  | 14, h => exact h
  | 15, h => exact h
  | 16, h => exact h
  | 17, h => exact h
  | 18, h => exact h
  | 19, h => exact h
  | 20, h => exact h
  | 21, ⟨b, e, h⟩ => exact ⟨b, e, h.ext x⟩
  | 22, h => exact h
  | 23, h => exact h
  | 24, h => exact h
  | 25, h => exact h
  | 26, h => exact h
  | 27, h => exact h
  | 28, h => exact h
  | 29, h => exact h
  | 30, h => exact h
  | 31, h => exact h
  | 32, h => exact h
  | 33, h => exact h
  | 34, h => exact h
  | 35, h => exact h
  | 36, h => exact h
  | 37, h => exact h
  | 38, h => exact h
  | 39, ⟨s1, s2, s3, s4, e, h⟩ => exact ⟨s1, s2, s3, s4, e, h.ext x⟩
  | 40, ⟨s1, s2, s3, s4, e, h⟩ => exact ⟨s1, s2, s3, s4, e, h.ext x⟩
  | 41, ⟨b, e, h⟩ => exact ⟨b, e, h.ext x⟩
  | 42, h => exact h
  | 43, h => exact h
  | 44, h => exact h
  | 45, h => exact h
  | 46, h => exact h
  | 47, h => exact h
  | 48, h => exact h
  | 49, h => exact h
  | 50, h => exact h.ext x
  | 51, h => exact h
  | 52, h => exact h
  | 53, h => exact h
  | _ + 54, _ => trivial
set_option maxRecDepth 100000 in
set_option maxHeartbeats 8000000 in
theorem awake7_any (w : World) : Calls Tryz.prog 9 #[] w fun e w' => e = .returned (.bool true) ∧ Ext w w' := by
  have X := Lib.hid (Ext.refl w)
  go_enter Tryz.func9, Tryz.ntmps9
  go_wp2_with fail
  have bb0 := (((Blk.new w #[.int .i64 0, .int .i64 10] 3).alloc (.cells #[.int .i64 5, .int .i64 6, .int .i64 8] 3)).alloc (.cells #[.slice (some ⟨w.heap.size, 0, none⟩) 2 2, .slice (some ⟨w.heap.size + 1, 0, none⟩) 3 3] 24))
  have bb1 := ((Blk.new (w.alloc (.cells #[.int .i64 0, .int .i64 10] 3)) #[.int .i64 5, .int .i64 6, .int .i64 8] 3).alloc (.cells #[.slice (some ⟨w.heap.size, 0, none⟩) 2 2, .slice (some ⟨w.heap.size + 1, 0, none⟩) 3 3] 24))
  rw [World.size_alloc] at bb1
  have bb2 := (Blk.new ((w.alloc (.cells #[.int .i64 0, .int .i64 10] 3)).alloc (.cells #[.int .i64 5, .int .i64 6, .int .i64 8] 3)) #[.slice (some ⟨w.heap.size, 0, none⟩) 2 2, .slice (some ⟨w.heap.size + 1, 0, none⟩) 3 3] 24)
  rw [World.size_alloc, World.size_alloc] at bb2
  have hx : Ext w (((w.alloc (.cells #[.int .i64 0, .int .i64 10] 3)).alloc (.cells #[.int .i64 5, .int .i64 6, .int .i64 8] 3)).alloc (.cells #[.slice (some ⟨w.heap.size, 0, none⟩) 2 2, .slice (some ⟨w.heap.size + 1, 0, none⟩) 3 3] 24)) := ((((Ext.refl w).alloc _).alloc _).alloc _)
  obtain ⟨w101, hw101⟩ : ∃ W, W = (((w.alloc (.cells #[.int .i64 0, .int .i64 10] 3)).alloc (.cells #[.int .i64 5, .int .i64 6, .int .i64 8] 3)).alloc (.cells #[.slice (some ⟨w.heap.size, 0, none⟩) 2 2, .slice (some ⟨w.heap.size + 1, 0, none⟩) 3 3] 24)) := ⟨_, rfl⟩
  rw [← hw101] at hx bb0 bb1 bb2 ⊢; clear hw101
  obtain ⟨GGn, hGGn⟩ : ∃ n, n = w.heap.size + 1 + 1 := ⟨_, rfl⟩
  rw [← hGGn] at bb2 ⊢; clear hGGn
  obtain ⟨GBn, hGBn⟩ : ∃ n, n = w.heap.size + 1 := ⟨_, rfl⟩
  rw [← hGBn] at bb1 ⊢; (try rw [← hGBn] at bb2); clear hGBn
  obtain ⟨GAn, hGAn⟩ : ∃ n, n = w.heap.size := ⟨_, rfl⟩
  rw [← hGAn] at bb0 ⊢; (try rw [← hGAn] at bb2); clear hGAn
  have X := Lib.hid (X.out.trans hx)
  clear hx
  have GA := Lib.hid bb0; clear bb0
  have GB := Lib.hid bb1; clear bb1
  have GG := Lib.hid bb2; clear bb2
  have HG := Lib.hid (rdG_two [0, 10] [5, 6, 8] 2 3 GA.out GB.out GG.out rfl rfl (by decide) (by decide))
  change Hid (RdG _ _ g7) at HG
  clear GA GB GG
  have hv := vertices7_any _ g7 _ HG.out
  rw [k7_verts] at hv
  dsimp only at hv
  refine (hv).mono ?_
  rintro e w2 ⟨rfl, hx⟩
  have HG := Lib.hid (HG.out.ext hx); have X := Lib.hid (X.out.trans hx)
  clear hx hv
  go_wp2_with fail
  have hv := place7_any _ g7 4 _ HG.out
  rw [k7_place] at hv
  refine (hv).mono ?_
  rintro e w3 ⟨⟨v, rfl, nn⟩, hx⟩
  have HG := Lib.hid (HG.out.ext hx); have X := Lib.hid (X.out.trans hx)
  obtain ⟨pa, rfl⟩ := nn.shape
  have PL := Lib.hid nn.rd
  clear nn hx hv
  simp only [List.length_cons, List.length_nil, Nat.zero_add, Nat.reduceAdd] at PL ⊢
  go_wp2_with fail
  have hv := point7_any _ g7 4 _ HG.out
  rw [k7_point] at hv
  refine (hv).mono ?_
  rintro e w4 ⟨⟨v, rfl, nn⟩, hx⟩
  have HG := Lib.hid (HG.out.ext hx); have PL := Lib.hid (PL.out.ext hx); have X := Lib.hid (X.out.trans hx)
  obtain ⟨qa, rfl⟩ := nn.shape
  have PT := Lib.hid nn.rd
  clear nn hx hv
  simp only [List.length_cons, List.length_nil, Nat.zero_add, Nat.reduceAdd] at PT ⊢
  go_wp2_with fail
  have bb0 := (Blk.new w4 #[.int .i64 4, .int .i64 7] 3)
  have hx : Ext w4 (w4.alloc (.cells #[.int .i64 4, .int .i64 7] 3)) := ((Ext.refl w4).alloc _)
  obtain ⟨w105, hw105⟩ : ∃ W, W = (w4.alloc (.cells #[.int .i64 4, .int .i64 7] 3)) := ⟨_, rfl⟩
  rw [← hw105] at hx bb0 ⊢; clear hw105
  obtain ⟨XBn, hXBn⟩ : ∃ n, n = w4.heap.size := ⟨_, rfl⟩
  rw [← hXBn] at bb0 ⊢; clear hXBn
  have HG := Lib.hid (HG.out.ext hx); have PL := Lib.hid (PL.out.ext hx); have PT := Lib.hid (PT.out.ext hx); have X := Lib.hid (X.out.trans hx)
  clear hx
  have XB := Lib.hid bb0; clear bb0
  have hv := weights7_any _ _ g7 [4, 7] _ HG.out (rdI_blk [4, 7] 2 XB.out rfl (by decide)) (bd7 [4, 7] (by decide))
  rw [k7_w1] at hv
  clear XB
  refine (hv).mono ?_
  rintro e w6 ⟨⟨v, B, rfl, hB, hown⟩, hx⟩
  have HG := Lib.hid (HG.out.ext hx); have PL := Lib.hid (PL.out.ext hx); have PT := Lib.hid (PT.out.ext hx); have X := Lib.hid (X.out.trans hx)
  obtain ⟨la, lc, rfl⟩ := hown.rdWs.shape
  have W1 := Lib.hid hown.rdWs
  clear hown hB hx hv
  rw [show wa7.length = 4 from rfl] at W1 ⊢
  go_wp2_with fail
  have bb0 := (Blk.new w6 #[.int .i64 (-3), .int .i64 100] 3)
  have hx : Ext w6 (w6.alloc (.cells #[.int .i64 (-3), .int .i64 100] 3)) := ((Ext.refl w6).alloc _)
  obtain ⟨w107, hw107⟩ : ∃ W, W = (w6.alloc (.cells #[.int .i64 (-3), .int .i64 100] 3)) := ⟨_, rfl⟩
  rw [← hw107] at hx bb0 ⊢; clear hw107
  obtain ⟨XBn, hXBn⟩ : ∃ n, n = w6.heap.size := ⟨_, rfl⟩
  rw [← hXBn] at bb0 ⊢; clear hXBn
  have HG := Lib.hid (HG.out.ext hx); have PL := Lib.hid (PL.out.ext hx); have PT := Lib.hid (PT.out.ext hx); have W1 := Lib.hid (W1.out.ext hx); have X := Lib.hid (X.out.trans hx)
  clear hx
  have XB := Lib.hid bb0; clear bb0
  have hv := weights7_any _ _ g7 [(-3), 100] _ HG.out (rdI_blk [(-3), 100] 2 XB.out rfl (by decide)) (bd7 [(-3), 100] (by decide))
  rw [k7_w2] at hv
  clear XB
  refine (hv).mono ?_
  rintro e w8 ⟨⟨v, B, rfl, hB, hown⟩, hx⟩
  have HG := Lib.hid (HG.out.ext hx); have PL := Lib.hid (PL.out.ext hx); have PT := Lib.hid (PT.out.ext hx); have W1 := Lib.hid (W1.out.ext hx); have X := Lib.hid (X.out.trans hx)
  obtain ⟨ma, mc, rfl⟩ := hown.rdWs.shape
  have W2 := Lib.hid hown.rdWs
  clear hown hB hx hv
  rw [show [(2, r7 1)].length = 1 from rfl] at W2 ⊢
  go_wp2_with fail
  refine (of7_k 0 1 zR k7_of0 _).mono ?_
  rintro e w9 ⟨⟨v, rfl, nn⟩, hx⟩
  have HG := Lib.hid (HG.out.ext hx); have PL := Lib.hid (PL.out.ext hx); have PT := Lib.hid (PT.out.ext hx); have W1 := Lib.hid (W1.out.ext hx); have W2 := Lib.hid (W2.out.ext hx); have X := Lib.hid (X.out.trans hx)
  obtain ⟨o0x1, o0x2, o0x3, o0x4, rfl⟩ := nn.shape
  have No0 := Lib.hid nn.rd
  clear nn hx
  go_wp2_with fail
  refine (of7_k 10 1 (r7 10) (k7_of 10 (by simp)) _).mono ?_
  rintro e w10 ⟨⟨v, rfl, nn⟩, hx⟩
  have HG := Lib.hid (HG.out.ext hx); have PL := Lib.hid (PL.out.ext hx); have PT := Lib.hid (PT.out.ext hx); have W1 := Lib.hid (W1.out.ext hx); have W2 := Lib.hid (W2.out.ext hx); have No0 := Lib.hid (No0.out.ext hx); have X := Lib.hid (X.out.trans hx)
  obtain ⟨o1x1, o1x2, o1x3, o1x4, rfl⟩ := nn.shape
  have No1 := Lib.hid nn.rd
  clear nn hx
  go_wp2_with fail
  refine (of7_k 20 1 (r7 20) (k7_of 20 (by simp)) _).mono ?_
  rintro e w11 ⟨⟨v, rfl, nn⟩, hx⟩
  have HG := Lib.hid (HG.out.ext hx); have PL := Lib.hid (PL.out.ext hx); have PT := Lib.hid (PT.out.ext hx); have W1 := Lib.hid (W1.out.ext hx); have W2 := Lib.hid (W2.out.ext hx); have No0 := Lib.hid (No0.out.ext hx); have No1 := Lib.hid (No1.out.ext hx); have X := Lib.hid (X.out.trans hx)
  obtain ⟨o2x1, o2x2, o2x3, o2x4, rfl⟩ := nn.shape
  have No2 := Lib.hid nn.rd
  clear nn hx
  go_wp2_with fail
  refine (of7_k 30 1 (r7 30) (k7_of 30 (by simp)) _).mono ?_
  rintro e w12 ⟨⟨v, rfl, nn⟩, hx⟩
  have HG := Lib.hid (HG.out.ext hx); have PL := Lib.hid (PL.out.ext hx); have PT := Lib.hid (PT.out.ext hx); have W1 := Lib.hid (W1.out.ext hx); have W2 := Lib.hid (W2.out.ext hx); have No0 := Lib.hid (No0.out.ext hx); have No1 := Lib.hid (No1.out.ext hx); have No2 := Lib.hid (No2.out.ext hx); have X := Lib.hid (X.out.trans hx)
  obtain ⟨o3x1, o3x2, o3x3, o3x4, rfl⟩ := nn.shape
  have No3 := Lib.hid nn.rd
  clear nn hx
  go_wp2_with fail
  refine (of7_k 40 1 (r7 40) (k7_of 40 (by simp)) _).mono ?_
  rintro e w13 ⟨⟨v, rfl, nn⟩, hx⟩
  have HG := Lib.hid (HG.out.ext hx); have PL := Lib.hid (PL.out.ext hx); have PT := Lib.hid (PT.out.ext hx); have W1 := Lib.hid (W1.out.ext hx); have W2 := Lib.hid (W2.out.ext hx); have No0 := Lib.hid (No0.out.ext hx); have No1 := Lib.hid (No1.out.ext hx); have No2 := Lib.hid (No2.out.ext hx); have No3 := Lib.hid (No3.out.ext hx); have X := Lib.hid (X.out.trans hx)
  obtain ⟨o4x1, o4x2, o4x3, o4x4, rfl⟩ := nn.shape
  have No4 := Lib.hid nn.rd
  clear nn hx
  go_wp2_with fail
  refine (of7_k 50 1 (r7 50) (k7_of 50 (by simp)) _).mono ?_
  rintro e w14 ⟨⟨v, rfl, nn⟩, hx⟩
  have HG := Lib.hid (HG.out.ext hx); have PL := Lib.hid (PL.out.ext hx); have PT := Lib.hid (PT.out.ext hx); have W1 := Lib.hid (W1.out.ext hx); have W2 := Lib.hid (W2.out.ext hx); have No0 := Lib.hid (No0.out.ext hx); have No1 := Lib.hid (No1.out.ext hx); have No2 := Lib.hid (No2.out.ext hx); have No3 := Lib.hid (No3.out.ext hx); have No4 := Lib.hid (No4.out.ext hx); have X := Lib.hid (X.out.trans hx)
  obtain ⟨o5x1, o5x2, o5x3, o5x4, rfl⟩ := nn.shape
  have No5 := Lib.hid nn.rd
  clear nn hx
  go_wp2_with fail
  have bb0 := ((Blk.new w14 #[.bool zR.neg, .slice o0x1 zR.num.length o0x2, .slice o0x3 zR.den.length o0x4, .bool (r7 10).neg, .slice o1x1 (r7 10).num.length o1x2, .slice o1x3 (r7 10).den.length o1x4, .bool (r7 20).neg, .slice o2x1 (r7 20).num.length o2x2, .slice o2x3 (r7 20).den.length o2x4, .bool (r7 30).neg, .slice o3x1 (r7 30).num.length o3x2, .slice o3x3 (r7 30).den.length o3x4, .bool (r7 40).neg, .slice o4x1 (r7 40).num.length o4x2, .slice o4x3 (r7 40).den.length o4x4, .bool (r7 50).neg, .slice o5x1 (r7 50).num.length o5x2, .slice o5x3 (r7 50).den.length o5x4] 62).alloc (.cells #[.int .i64 4, .int .i64 7] 3))
  have bb1 := (Blk.new (w14.alloc (.cells #[.bool zR.neg, .slice o0x1 zR.num.length o0x2, .slice o0x3 zR.den.length o0x4, .bool (r7 10).neg, .slice o1x1 (r7 10).num.length o1x2, .slice o1x3 (r7 10).den.length o1x4, .bool (r7 20).neg, .slice o2x1 (r7 20).num.length o2x2, .slice o2x3 (r7 20).den.length o2x4, .bool (r7 30).neg, .slice o3x1 (r7 30).num.length o3x2, .slice o3x3 (r7 30).den.length o3x4, .bool (r7 40).neg, .slice o4x1 (r7 40).num.length o4x2, .slice o4x3 (r7 40).den.length o4x4, .bool (r7 50).neg, .slice o5x1 (r7 50).num.length o5x2, .slice o5x3 (r7 50).den.length o5x4] 62)) #[.int .i64 4, .int .i64 7] 3)
  rw [World.size_alloc] at bb1
  have hx : Ext w14 ((w14.alloc (.cells #[.bool zR.neg, .slice o0x1 zR.num.length o0x2, .slice o0x3 zR.den.length o0x4, .bool (r7 10).neg, .slice o1x1 (r7 10).num.length o1x2, .slice o1x3 (r7 10).den.length o1x4, .bool (r7 20).neg, .slice o2x1 (r7 20).num.length o2x2, .slice o2x3 (r7 20).den.length o2x4, .bool (r7 30).neg, .slice o3x1 (r7 30).num.length o3x2, .slice o3x3 (r7 30).den.length o3x4, .bool (r7 40).neg, .slice o4x1 (r7 40).num.length o4x2, .slice o4x3 (r7 40).den.length o4x4, .bool (r7 50).neg, .slice o5x1 (r7 50).num.length o5x2, .slice o5x3 (r7 50).den.length o5x4] 62)).alloc (.cells #[.int .i64 4, .int .i64 7] 3)) := (((Ext.refl w14).alloc _).alloc _)
  obtain ⟨w115, hw115⟩ : ∃ W, W = ((w14.alloc (.cells #[.bool zR.neg, .slice o0x1 zR.num.length o0x2, .slice o0x3 zR.den.length o0x4, .bool (r7 10).neg, .slice o1x1 (r7 10).num.length o1x2, .slice o1x3 (r7 10).den.length o1x4, .bool (r7 20).neg, .slice o2x1 (r7 20).num.length o2x2, .slice o2x3 (r7 20).den.length o2x4, .bool (r7 30).neg, .slice o3x1 (r7 30).num.length o3x2, .slice o3x3 (r7 30).den.length o3x4, .bool (r7 40).neg, .slice o4x1 (r7 40).num.length o4x2, .slice o4x3 (r7 40).den.length o4x4, .bool (r7 50).neg, .slice o5x1 (r7 50).num.length o5x2, .slice o5x3 (r7 50).den.length o5x4] 62)).alloc (.cells #[.int .i64 4, .int .i64 7] 3)) := ⟨_, rfl⟩
  rw [← hw115] at hx bb0 bb1 ⊢; clear hw115
  obtain ⟨XBn, hXBn⟩ : ∃ n, n = w14.heap.size + 1 := ⟨_, rfl⟩
  rw [← hXBn] at bb1 ⊢; clear hXBn
  obtain ⟨VBn, hVBn⟩ : ∃ n, n = w14.heap.size := ⟨_, rfl⟩
  rw [← hVBn] at bb0 ⊢; clear hVBn
  have HG := Lib.hid (HG.out.ext hx); have PL := Lib.hid (PL.out.ext hx); have PT := Lib.hid (PT.out.ext hx); have W1 := Lib.hid (W1.out.ext hx); have W2 := Lib.hid (W2.out.ext hx); have No0 := Lib.hid (No0.out.ext hx); have No1 := Lib.hid (No1.out.ext hx); have No2 := Lib.hid (No2.out.ext hx); have No3 := Lib.hid (No3.out.ext hx); have No4 := Lib.hid (No4.out.ext hx); have No5 := Lib.hid (No5.out.ext hx); have X := Lib.hid (X.out.trans hx)
  clear hx
  have VB := Lib.hid bb0; clear bb0
  have XB := Lib.hid bb1; clear bb1
  have hr := rdRs_blk VB.out v7 [[.bool zR.neg, .slice o0x1 zR.num.length o0x2, .slice o0x3 zR.den.length o0x4], [.bool (r7 10).neg, .slice o1x1 (r7 10).num.length o1x2, .slice o1x3 (r7 10).den.length o1x4], [.bool (r7 20).neg, .slice o2x1 (r7 20).num.length o2x2, .slice o2x3 (r7 20).den.length o2x4], [.bool (r7 30).neg, .slice o3x1 (r7 30).num.length o3x2, .slice o3x3 (r7 30).den.length o3x4], [.bool (r7 40).neg, .slice o4x1 (r7 40).num.length o4x2, .slice o4x3 (r7 40).den.length o4x4], [.bool (r7 50).neg, .slice o5x1 (r7 50).num.length o5x2, .slice o5x3 (r7 50).den.length o5x4]] rfl rfl (by simp) (by decide) (fun i x hi => by
    match i, hi with
    | 0, hi => injection hi with hi; subst hi; exact ⟨_, _, _, _, rfl, (rdR_two7 No0.out).1, (rdR_two7 No0.out).2⟩
    | 1, hi => injection hi with hi; subst hi; exact ⟨_, _, _, _, rfl, (rdR_two7 No1.out).1, (rdR_two7 No1.out).2⟩
    | 2, hi => injection hi with hi; subst hi; exact ⟨_, _, _, _, rfl, (rdR_two7 No2.out).1, (rdR_two7 No2.out).2⟩
    | 3, hi => injection hi with hi; subst hi; exact ⟨_, _, _, _, rfl, (rdR_two7 No3.out).1, (rdR_two7 No3.out).2⟩
    | 4, hi => injection hi with hi; subst hi; exact ⟨_, _, _, _, rfl, (rdR_two7 No4.out).1, (rdR_two7 No4.out).2⟩
    | 5, hi => injection hi with hi; subst hi; exact ⟨_, _, _, _, rfl, (rdR_two7 No5.out).1, (rdR_two7 No5.out).2⟩
    )
  have hv := value7_any _ _ _ g7 v7 [4, 7] _ HG.out hr v7_lim (rdI_blk [4, 7] 2 XB.out rfl (by decide)) (bd7 [4, 7] (by decide))
  rw [k7_val] at hv
  clear XB VB hr
  refine (hv).mono ?_
  rintro e w16 ⟨⟨v, rfl, nn⟩, hx⟩
  have HG := Lib.hid (HG.out.ext hx); have PL := Lib.hid (PL.out.ext hx); have PT := Lib.hid (PT.out.ext hx); have W1 := Lib.hid (W1.out.ext hx); have W2 := Lib.hid (W2.out.ext hx); have No0 := Lib.hid (No0.out.ext hx); have No1 := Lib.hid (No1.out.ext hx); have No2 := Lib.hid (No2.out.ext hx); have No3 := Lib.hid (No3.out.ext hx); have No4 := Lib.hid (No4.out.ext hx); have No5 := Lib.hid (No5.out.ext hx); have X := Lib.hid (X.out.trans hx)
  obtain ⟨y1, y2, y3, y4, rfl⟩ := nn.shape
  have YR := Lib.hid nn.rd
  clear nn hx hv
  go_wp2_with fail
  have bb0 := (Blk.new w16 #[.bool (r7 27).neg, .slice y1 (r7 27).num.length y2, .slice y3 (r7 27).den.length y4] 62)
  have hx : Ext w16 (w16.alloc (.cells #[.bool (r7 27).neg, .slice y1 (r7 27).num.length y2, .slice y3 (r7 27).den.length y4] 62)) := ((Ext.refl w16).alloc _)
  obtain ⟨w117, hw117⟩ : ∃ W, W = (w16.alloc (.cells #[.bool (r7 27).neg, .slice y1 (r7 27).num.length y2, .slice y3 (r7 27).den.length y4] 62)) := ⟨_, rfl⟩
  rw [← hw117] at hx bb0 ⊢; clear hw117
  obtain ⟨Yn, hYn⟩ : ∃ n, n = w16.heap.size := ⟨_, rfl⟩
  rw [← hYn] at bb0 ⊢; clear hYn
  have HG := Lib.hid (HG.out.ext hx); have PL := Lib.hid (PL.out.ext hx); have PT := Lib.hid (PT.out.ext hx); have W1 := Lib.hid (W1.out.ext hx); have W2 := Lib.hid (W2.out.ext hx); have YR := Lib.hid (YR.out.ext hx); have X := Lib.hid (X.out.trans hx)
  clear hx
  have Y := Lib.hid bb0; clear bb0
  refine (of7_k 3 10 (s7 3 10) k7_of3 _).mono ?_
  rintro e w18 ⟨⟨v, rfl, nn⟩, hx⟩
  have HG := Lib.hid (HG.out.ext hx); have PL := Lib.hid (PL.out.ext hx); have PT := Lib.hid (PT.out.ext hx); have W1 := Lib.hid (W1.out.ext hx); have W2 := Lib.hid (W2.out.ext hx); have YR := Lib.hid (YR.out.ext hx); have Y := Lib.hid (Y.out.ext hx); have X := Lib.hid (X.out.trans hx)
  obtain ⟨m0x1, m0x2, m0x3, m0x4, rfl⟩ := nn.shape
  have Nm0 := Lib.hid nn.rd
  clear nn hx
  go_wp2_with fail
  refine (of7_k 3 10 (s7 3 10) k7_of3 _).mono ?_
  rintro e w19 ⟨⟨v, rfl, nn⟩, hx⟩
  have HG := Lib.hid (HG.out.ext hx); have PL := Lib.hid (PL.out.ext hx); have PT := Lib.hid (PT.out.ext hx); have W1 := Lib.hid (W1.out.ext hx); have W2 := Lib.hid (W2.out.ext hx); have YR := Lib.hid (YR.out.ext hx); have Y := Lib.hid (Y.out.ext hx); have Nm0 := Lib.hid (Nm0.out.ext hx); have X := Lib.hid (X.out.trans hx)
  obtain ⟨m1x1, m1x2, m1x3, m1x4, rfl⟩ := nn.shape
  have Nm1 := Lib.hid nn.rd
  clear nn hx
  go_wp2_with fail
  refine (of7_k 1 5 (s7 1 5) k7_of1 _).mono ?_
  rintro e w20 ⟨⟨v, rfl, nn⟩, hx⟩
  have HG := Lib.hid (HG.out.ext hx); have PL := Lib.hid (PL.out.ext hx); have PT := Lib.hid (PT.out.ext hx); have W1 := Lib.hid (W1.out.ext hx); have W2 := Lib.hid (W2.out.ext hx); have YR := Lib.hid (YR.out.ext hx); have Y := Lib.hid (Y.out.ext hx); have Nm0 := Lib.hid (Nm0.out.ext hx); have Nm1 := Lib.hid (Nm1.out.ext hx); have X := Lib.hid (X.out.trans hx)
  obtain ⟨m2x1, m2x2, m2x3, m2x4, rfl⟩ := nn.shape
  have Nm2 := Lib.hid nn.rd
  clear nn hx
  go_wp2_with fail
  refine (of7_k 1 5 (s7 1 5) k7_of1 _).mono ?_
  rintro e w21 ⟨⟨v, rfl, nn⟩, hx⟩
  have HG := Lib.hid (HG.out.ext hx); have PL := Lib.hid (PL.out.ext hx); have PT := Lib.hid (PT.out.ext hx); have W1 := Lib.hid (W1.out.ext hx); have W2 := Lib.hid (W2.out.ext hx); have YR := Lib.hid (YR.out.ext hx); have Y := Lib.hid (Y.out.ext hx); have Nm0 := Lib.hid (Nm0.out.ext hx); have Nm1 := Lib.hid (Nm1.out.ext hx); have Nm2 := Lib.hid (Nm2.out.ext hx); have X := Lib.hid (X.out.trans hx)
  obtain ⟨m3x1, m3x2, m3x3, m3x4, rfl⟩ := nn.shape
  have Nm3 := Lib.hid nn.rd
  clear nn hx
  go_wp2_with fail
  have bb0 := (Blk.new w21 #[.int .i64 1, .bool (s7 3 10).neg, .slice m0x1 (s7 3 10).num.length m0x2, .slice m0x3 (s7 3 10).den.length m0x4, .int .i64 2, .bool (s7 3 10).neg, .slice m1x1 (s7 3 10).num.length m1x2, .slice m1x3 (s7 3 10).den.length m1x4, .int .i64 4, .bool (s7 1 5).neg, .slice m2x1 (s7 1 5).num.length m2x2, .slice m2x3 (s7 1 5).den.length m2x4, .int .i64 5, .bool (s7 1 5).neg, .slice m3x1 (s7 1 5).num.length m3x2, .slice m3x3 (s7 1 5).den.length m3x4] 107)
  have hx : Ext w21 (w21.alloc (.cells #[.int .i64 1, .bool (s7 3 10).neg, .slice m0x1 (s7 3 10).num.length m0x2, .slice m0x3 (s7 3 10).den.length m0x4, .int .i64 2, .bool (s7 3 10).neg, .slice m1x1 (s7 3 10).num.length m1x2, .slice m1x3 (s7 3 10).den.length m1x4, .int .i64 4, .bool (s7 1 5).neg, .slice m2x1 (s7 1 5).num.length m2x2, .slice m2x3 (s7 1 5).den.length m2x4, .int .i64 5, .bool (s7 1 5).neg, .slice m3x1 (s7 1 5).num.length m3x2, .slice m3x3 (s7 1 5).den.length m3x4] 107)) := ((Ext.refl w21).alloc _)
  obtain ⟨w122, hw122⟩ : ∃ W, W = (w21.alloc (.cells #[.int .i64 1, .bool (s7 3 10).neg, .slice m0x1 (s7 3 10).num.length m0x2, .slice m0x3 (s7 3 10).den.length m0x4, .int .i64 2, .bool (s7 3 10).neg, .slice m1x1 (s7 3 10).num.length m1x2, .slice m1x3 (s7 3 10).den.length m1x4, .int .i64 4, .bool (s7 1 5).neg, .slice m2x1 (s7 1 5).num.length m2x2, .slice m2x3 (s7 1 5).den.length m2x4, .int .i64 5, .bool (s7 1 5).neg, .slice m3x1 (s7 1 5).num.length m3x2, .slice m3x3 (s7 1 5).den.length m3x4] 107)) := ⟨_, rfl⟩
  rw [← hw122] at hx bb0 ⊢; clear hw122
  obtain ⟨WBn, hWBn⟩ : ∃ n, n = w21.heap.size := ⟨_, rfl⟩
  rw [← hWBn] at bb0 ⊢; clear hWBn
  have HG := Lib.hid (HG.out.ext hx); have PL := Lib.hid (PL.out.ext hx); have PT := Lib.hid (PT.out.ext hx); have W1 := Lib.hid (W1.out.ext hx); have W2 := Lib.hid (W2.out.ext hx); have YR := Lib.hid (YR.out.ext hx); have Y := Lib.hid (Y.out.ext hx); have Nm0 := Lib.hid (Nm0.out.ext hx); have Nm1 := Lib.hid (Nm1.out.ext hx); have Nm2 := Lib.hid (Nm2.out.ext hx); have Nm3 := Lib.hid (Nm3.out.ext hx); have X := Lib.hid (X.out.trans hx)
  clear hx
  have WB := Lib.hid bb0; clear bb0
  have hr := rdWs_blk WB.out wa7 4 rfl (by decide) (fun i x hi => by
    match i, hi with
    | 0, hi => injection hi with hi; subst hi; exact ⟨_, _, _, _, rfl, rfl, rfl, rfl, Nm0.out⟩
    | 1, hi => injection hi with hi; subst hi; exact ⟨_, _, _, _, rfl, rfl, rfl, rfl, Nm1.out⟩
    | 2, hi => injection hi with hi; subst hi; exact ⟨_, _, _, _, rfl, rfl, rfl, rfl, Nm2.out⟩
    | 3, hi => injection hi with hi; subst hi; exact ⟨_, _, _, _, rfl, rfl, rfl, rfl, Nm3.out⟩
    )
  have WN := Lib.hid hr
  clear hr WB Nm0 Nm1 Nm2 Nm3
  refine wp_region_each (awkJ pa qa la lc ma mc WBn y1 y2 y3 y4) (by kernel_rfl) (by kernel_rfl) (by kernel_rfl) (fun _ _ _ _ h x => awkJ_ext h x) ?_ ?_
  · refine ⟨?_, ?_, ?_, ?_, ?_, ?_, ?_, ?_, ?_, ?_, ?_, ?_, ?_, ?_, ?_, ?_, ?_, ?_, ?_, ?_, ?_, ?_, ?_, ?_, ?_, ?_, ?_, ?_, ?_, ?_, ?_, ?_, ?_, ?_, ?_, ?_, ?_, ?_, ?_, ?_, ?_, ?_, ?_, ?_, ?_, ?_, ?_, ?_, ?_, ?_, ?_, ?_, ?_, ?_, trivial⟩
    · intro a W hW hB hD K hK
      have b2 := hB 2 rfl
      simp only [Array.getD_eq_getD_getElem?, List.getElem?_toArray, List.getElem?_cons_succ, List.getElem?_cons_zero, Option.getD_some] at b2
      go_simp
      exact hK _ _ (Ext.refl _) rfl
    · intro a W hW hB hD K hK
      obtain ⟨v67, e67⟩ : ∃ x, a.tmps.getD 67 undef = x := ⟨_, rfl⟩
      have h67 := hD 0 _ 67 rfl rfl (by kernel_rfl)
      rw [e67] at h67
      simp only [Array.getD_eq_getD_getElem?] at e67
      obtain rfl := h67
      go_simp
      exact hK _ _ (Ext.refl _) rfl
    · intro a W hW hB hD K hK
      obtain ⟨v68, e68⟩ : ∃ x, a.tmps.getD 68 undef = x := ⟨_, rfl⟩
      have h68 := hD 1 _ 68 rfl rfl (by kernel_rfl)
      rw [e68] at h68
      simp only [Array.getD_eq_getD_getElem?] at e68
      obtain rfl := h68
      go_simp
      exact hK _ _ (Ext.refl _) rfl
    · intro a W hW hB hD K hK
      have b3 := hB 3 rfl
      simp only [Array.getD_eq_getD_getElem?, List.getElem?_toArray, List.getElem?_cons_succ, List.getElem?_cons_zero, Option.getD_some] at b3
      obtain ⟨v69, e69⟩ : ∃ x, a.tmps.getD 69 undef = x := ⟨_, rfl⟩
      have h69 := hD 2 _ 69 rfl rfl (by kernel_rfl)
      rw [e69] at h69
      simp only [Array.getD_eq_getD_getElem?] at e69
      obtain rfl := h69
      have z9 := getD_bool7 e69
      go_simp
      exact hK _ _ (Ext.refl _) rfl
    · intro a W hW hB hD K hK
      obtain ⟨v70, e70⟩ : ∃ x, a.tmps.getD 70 undef = x := ⟨_, rfl⟩
      have h70 := hD 3 _ 70 rfl rfl (by kernel_rfl)
      rw [e70] at h70
      simp only [Array.getD_eq_getD_getElem?] at e70
      obtain rfl := h70
      obtain ⟨v69, e69⟩ : ∃ x, a.tmps.getD 69 undef = x := ⟨_, rfl⟩
      have h69 := hD 2 _ 69 rfl rfl (by kernel_rfl)
      rw [e69] at h69
      simp only [Array.getD_eq_getD_getElem?] at e69
      obtain rfl := h69
      have z9 := getD_bool7 e69
      go_simp
      exact hK _ _ (Ext.refl _) rfl
    · intro a W hW hB hD K hK
      obtain ⟨v71, e71⟩ : ∃ x, a.tmps.getD 71 undef = x := ⟨_, rfl⟩
      have h71 := hD 4 _ 71 rfl rfl (by kernel_rfl)
      rw [e71] at h71
      simp only [Array.getD_eq_getD_getElem?] at e71
      obtain rfl := h71
      obtain ⟨v69, e69⟩ : ∃ x, a.tmps.getD 69 undef = x := ⟨_, rfl⟩
      have h69 := hD 2 _ 69 rfl rfl (by kernel_rfl)
      rw [e69] at h69
      simp only [Array.getD_eq_getD_getElem?] at e69
      obtain rfl := h69
      have z9 := getD_bool7 e69
      go_simp
      exact hK _ _ (Ext.refl _) rfl
    · intro a W hW hB hD K hK
      obtain ⟨v72, e72⟩ : ∃ x, a.tmps.getD 72 undef = x := ⟨_, rfl⟩
      have h72 := hD 5 _ 72 rfl rfl (by kernel_rfl)
      rw [e72] at h72
      simp only [Array.getD_eq_getD_getElem?] at e72
      obtain rfl := h72
      go_simp
      exact hK _ _ (Ext.refl _) rfl
    · intro a W hW hB hD K hK
      have b5 := hB 5 rfl
      simp only [Array.getD_eq_getD_getElem?, List.getElem?_toArray, List.getElem?_cons_succ, List.getElem?_cons_zero, Option.getD_some] at b5
      obtain ⟨v73, e73⟩ : ∃ x, a.tmps.getD 73 undef = x := ⟨_, rfl⟩
      have h73 := hD 6 _ 73 rfl rfl (by kernel_rfl)
      rw [e73] at h73
      simp only [Array.getD_eq_getD_getElem?] at e73
      obtain rfl := h73
      have z9 := getD_bool7 e73
      go_simp
      exact hK _ _ (Ext.refl _) rfl
    · intro a W hW hB hD K hK
      obtain ⟨v74, e74⟩ : ∃ x, a.tmps.getD 74 undef = x := ⟨_, rfl⟩
      have h74 := hD 7 _ 74 rfl rfl (by kernel_rfl)
      rw [e74] at h74
      simp only [Array.getD_eq_getD_getElem?] at e74
      obtain rfl := h74
      obtain ⟨v73, e73⟩ : ∃ x, a.tmps.getD 73 undef = x := ⟨_, rfl⟩
      have h73 := hD 6 _ 73 rfl rfl (by kernel_rfl)
      rw [e73] at h73
      simp only [Array.getD_eq_getD_getElem?] at e73
      obtain rfl := h73
      have z9 := getD_bool7 e73
      go_simp
      exact hK _ _ (Ext.refl _) rfl
    · intro a W hW hB hD K hK
      obtain ⟨v75, e75⟩ : ∃ x, a.tmps.getD 75 undef = x := ⟨_, rfl⟩
      have h75 := hD 8 _ 75 rfl rfl (by kernel_rfl)
      rw [e75] at h75
      simp only [Array.getD_eq_getD_getElem?] at e75
      obtain rfl := h75
      obtain ⟨v73, e73⟩ : ∃ x, a.tmps.getD 73 undef = x := ⟨_, rfl⟩
      have h73 := hD 6 _ 73 rfl rfl (by kernel_rfl)
      rw [e73] at h73
      simp only [Array.getD_eq_getD_getElem?] at e73
      obtain rfl := h73
      have z9 := getD_bool7 e73
      go_simp
      exact hK _ _ (Ext.refl _) rfl
    · intro a W hW hB hD K hK
      obtain ⟨v76, e76⟩ : ∃ x, a.tmps.getD 76 undef = x := ⟨_, rfl⟩
      have h76 := hD 9 _ 76 rfl rfl (by kernel_rfl)
      rw [e76] at h76
      simp only [Array.getD_eq_getD_getElem?] at e76
      obtain rfl := h76
      go_simp
      exact hK _ _ (Ext.refl _) rfl
    · intro a W hW hB hD K hK
      have b4 := hB 4 rfl
      simp only [Array.getD_eq_getD_getElem?, List.getElem?_toArray, List.getElem?_cons_succ, List.getElem?_cons_zero, Option.getD_some] at b4
      obtain ⟨v77, e77⟩ : ∃ x, a.tmps.getD 77 undef = x := ⟨_, rfl⟩
      have h77 := hD 10 _ 77 rfl rfl (by kernel_rfl)
      rw [e77] at h77
      simp only [Array.getD_eq_getD_getElem?] at e77
      obtain rfl := h77
      have z9 := getD_bool7 e77
      go_simp
      exact hK _ _ (Ext.refl _) rfl
    · intro a W hW hB hD K hK
      obtain ⟨v77, e77⟩ : ∃ x, a.tmps.getD 77 undef = x := ⟨_, rfl⟩
      have h77 := hD 10 _ 77 rfl rfl (by kernel_rfl)
      rw [e77] at h77
      simp only [Array.getD_eq_getD_getElem?] at e77
      obtain rfl := h77
      have z9 := getD_bool7 e77
      go_simp
      exact hK _ _ ((Ext.refl _).alloc _) ⟨_, rfl, Blk.new _ _ _⟩
    · intro a W hW hB hD K hK
      obtain ⟨v78, e78⟩ : ∃ x, a.tmps.getD 78 undef = x := ⟨_, rfl⟩
      have h78 := hD 11 _ 78 rfl rfl (by kernel_rfl)
      rw [e78] at h78
      simp only [Array.getD_eq_getD_getElem?] at e78
      obtain rfl := h78
      obtain ⟨v79, e79⟩ : ∃ x, a.tmps.getD 79 undef = x := ⟨_, rfl⟩
      have h79 := hD 12 _ 79 rfl rfl (by kernel_rfl)
      rw [e79] at h79
      simp only [Array.getD_eq_getD_getElem?] at e79
      obtain ⟨b1, rfl, k1⟩ := h79
      obtain ⟨v77, e77⟩ : ∃ x, a.tmps.getD 77 undef = x := ⟨_, rfl⟩
      have h77 := hD 10 _ 77 rfl rfl (by kernel_rfl)
      rw [e77] at h77
      simp only [Array.getD_eq_getD_getElem?] at e77
      obtain rfl := h77
      have z9 := getD_bool7 e77
      go_simp
      refine (equalInts_any _ _ [1, 1] [1, 1] _ (PL.out.ext hW) (rdI_blk [1, 1] 2 k1 rfl (by decide))).mono ?_
      rintro e w9 ⟨rfl, hx⟩
      exact hK _ _ hx (congrArg Value.bool (decide_eq_true rfl))
    · intro a W hW hB hD K hK
      obtain ⟨v80, e80⟩ : ∃ x, a.tmps.getD 80 undef = x := ⟨_, rfl⟩
      have h80 := hD 13 _ 80 rfl rfl (by kernel_rfl)
      rw [e80] at h80
      simp only [Array.getD_eq_getD_getElem?] at e80
      obtain rfl := h80
      obtain ⟨v77, e77⟩ : ∃ x, a.tmps.getD 77 undef = x := ⟨_, rfl⟩
      have h77 := hD 10 _ 77 rfl rfl (by kernel_rfl)
      rw [e77] at h77
      simp only [Array.getD_eq_getD_getElem?] at e77
      obtain rfl := h77
      have z9 := getD_bool7 e77
      go_simp
      exact hK _ _ (Ext.refl _) rfl
    · intro a W hW hB hD K hK
      obtain ⟨v81, e81⟩ : ∃ x, a.tmps.getD 81 undef = x := ⟨_, rfl⟩
      have h81 := hD 14 _ 81 rfl rfl (by kernel_rfl)
      rw [e81] at h81
      simp only [Array.getD_eq_getD_getElem?] at e81
      obtain rfl := h81
      go_simp
      exact hK _ _ (Ext.refl _) rfl
    · intro a W hW hB hD K hK
      have b7 := hB 7 rfl
      simp only [Array.getD_eq_getD_getElem?, List.getElem?_toArray, List.getElem?_cons_succ, List.getElem?_cons_zero, Option.getD_some] at b7
      obtain ⟨v82, e82⟩ : ∃ x, a.tmps.getD 82 undef = x := ⟨_, rfl⟩
      have h82 := hD 15 _ 82 rfl rfl (by kernel_rfl)
      rw [e82] at h82
      simp only [Array.getD_eq_getD_getElem?] at e82
      obtain rfl := h82
      have z9 := getD_bool7 e82
      go_simp
      exact hK _ _ (Ext.refl _) rfl
    · intro a W hW hB hD K hK
      obtain ⟨v83, e83⟩ : ∃ x, a.tmps.getD 83 undef = x := ⟨_, rfl⟩
      have h83 := hD 16 _ 83 rfl rfl (by kernel_rfl)
      rw [e83] at h83
      simp only [Array.getD_eq_getD_getElem?] at e83
      obtain rfl := h83
      obtain ⟨v82, e82⟩ : ∃ x, a.tmps.getD 82 undef = x := ⟨_, rfl⟩
      have h82 := hD 15 _ 82 rfl rfl (by kernel_rfl)
      rw [e82] at h82
      simp only [Array.getD_eq_getD_getElem?] at e82
      obtain rfl := h82
      have z9 := getD_bool7 e82
      go_simp
      exact hK _ _ (Ext.refl _) rfl
    · intro a W hW hB hD K hK
      obtain ⟨v84, e84⟩ : ∃ x, a.tmps.getD 84 undef = x := ⟨_, rfl⟩
      have h84 := hD 17 _ 84 rfl rfl (by kernel_rfl)
      rw [e84] at h84
      simp only [Array.getD_eq_getD_getElem?] at e84
      obtain rfl := h84
      obtain ⟨v82, e82⟩ : ∃ x, a.tmps.getD 82 undef = x := ⟨_, rfl⟩
      have h82 := hD 15 _ 82 rfl rfl (by kernel_rfl)
      rw [e82] at h82
      simp only [Array.getD_eq_getD_getElem?] at e82
      obtain rfl := h82
      have z9 := getD_bool7 e82
      go_simp
      exact hK _ _ (Ext.refl _) rfl
    · intro a W hW hB hD K hK
      obtain ⟨v85, e85⟩ : ∃ x, a.tmps.getD 85 undef = x := ⟨_, rfl⟩
      have h85 := hD 18 _ 85 rfl rfl (by kernel_rfl)
      rw [e85] at h85
      simp only [Array.getD_eq_getD_getElem?] at e85
      obtain rfl := h85
      go_simp
      exact hK _ _ (Ext.refl _) rfl
    · intro a W hW hB hD K hK
      have b6 := hB 6 rfl
      simp only [Array.getD_eq_getD_getElem?, List.getElem?_toArray, List.getElem?_cons_succ, List.getElem?_cons_zero, Option.getD_some] at b6
      obtain ⟨v86, e86⟩ : ∃ x, a.tmps.getD 86 undef = x := ⟨_, rfl⟩
      have h86 := hD 19 _ 86 rfl rfl (by kernel_rfl)
      rw [e86] at h86
      simp only [Array.getD_eq_getD_getElem?] at e86
      obtain rfl := h86
      have z9 := getD_bool7 e86
      go_simp
      exact hK _ _ (Ext.refl _) rfl
    · intro a W hW hB hD K hK
      obtain ⟨v86, e86⟩ : ∃ x, a.tmps.getD 86 undef = x := ⟨_, rfl⟩
      have h86 := hD 19 _ 86 rfl rfl (by kernel_rfl)
      rw [e86] at h86
      simp only [Array.getD_eq_getD_getElem?] at e86
      obtain rfl := h86
      have z9 := getD_bool7 e86
      go_simp
      exact hK _ _ ((Ext.refl _).alloc _) ⟨_, rfl, Blk.new _ _ _⟩
    · intro a W hW hB hD K hK
      obtain ⟨v87, e87⟩ : ∃ x, a.tmps.getD 87 undef = x := ⟨_, rfl⟩
      have h87 := hD 20 _ 87 rfl rfl (by kernel_rfl)
      rw [e87] at h87
      simp only [Array.getD_eq_getD_getElem?] at e87
      obtain rfl := h87
      obtain ⟨v88, e88⟩ : ∃ x, a.tmps.getD 88 undef = x := ⟨_, rfl⟩
      have h88 := hD 21 _ 88 rfl rfl (by kernel_rfl)
      rw [e88] at h88
      simp only [Array.getD_eq_getD_getElem?] at e88
      obtain ⟨b1, rfl, k1⟩ := h88
      obtain ⟨v86, e86⟩ : ∃ x, a.tmps.getD 86 undef = x := ⟨_, rfl⟩
      have h86 := hD 19 _ 86 rfl rfl (by kernel_rfl)
      rw [e86] at h86
      simp only [Array.getD_eq_getD_getElem?] at e86
      obtain rfl := h86
      have z9 := getD_bool7 e86
      go_simp
      refine (equalInts_any _ _ [10, 6] [10, 6] _ (PT.out.ext hW) (rdI_blk [10, 6] 2 k1 rfl (by decide))).mono ?_
      rintro e w9 ⟨rfl, hx⟩
      exact hK _ _ hx (congrArg Value.bool (decide_eq_true rfl))
    · intro a W hW hB hD K hK
      obtain ⟨v89, e89⟩ : ∃ x, a.tmps.getD 89 undef = x := ⟨_, rfl⟩
      have h89 := hD 22 _ 89 rfl rfl (by kernel_rfl)
      rw [e89] at h89
      simp only [Array.getD_eq_getD_getElem?] at e89
      obtain rfl := h89
      obtain ⟨v86, e86⟩ : ∃ x, a.tmps.getD 86 undef = x := ⟨_, rfl⟩
      have h86 := hD 19 _ 86 rfl rfl (by kernel_rfl)
      rw [e86] at h86
      simp only [Array.getD_eq_getD_getElem?] at e86
      obtain rfl := h86
      have z9 := getD_bool7 e86
      go_simp
      exact hK _ _ (Ext.refl _) rfl
    · intro a W hW hB hD K hK
      obtain ⟨v90, e90⟩ : ∃ x, a.tmps.getD 90 undef = x := ⟨_, rfl⟩
      have h90 := hD 23 _ 90 rfl rfl (by kernel_rfl)
      rw [e90] at h90
      simp only [Array.getD_eq_getD_getElem?] at e90
      obtain rfl := h90
      go_simp
      exact hK _ _ (Ext.refl _) rfl
    · intro a W hW hB hD K hK
      have b9 := hB 9 rfl
      simp only [Array.getD_eq_getD_getElem?, List.getElem?_toArray, List.getElem?_cons_succ, List.getElem?_cons_zero, Option.getD_some] at b9
      obtain ⟨v91, e91⟩ : ∃ x, a.tmps.getD 91 undef = x := ⟨_, rfl⟩
      have h91 := hD 24 _ 91 rfl rfl (by kernel_rfl)
      rw [e91] at h91
      simp only [Array.getD_eq_getD_getElem?] at e91
      obtain rfl := h91
      have z9 := getD_bool7 e91
      go_simp
      exact hK _ _ (Ext.refl _) rfl
    · intro a W hW hB hD K hK
      obtain ⟨v92, e92⟩ : ∃ x, a.tmps.getD 92 undef = x := ⟨_, rfl⟩
      have h92 := hD 25 _ 92 rfl rfl (by kernel_rfl)
      rw [e92] at h92
      simp only [Array.getD_eq_getD_getElem?] at e92
      obtain rfl := h92
      obtain ⟨v91, e91⟩ : ∃ x, a.tmps.getD 91 undef = x := ⟨_, rfl⟩
      have h91 := hD 24 _ 91 rfl rfl (by kernel_rfl)
      rw [e91] at h91
      simp only [Array.getD_eq_getD_getElem?] at e91
      obtain rfl := h91
      have z9 := getD_bool7 e91
      go_simp
      exact hK _ _ (Ext.refl _) rfl
    · intro a W hW hB hD K hK
      obtain ⟨v93, e93⟩ : ∃ x, a.tmps.getD 93 undef = x := ⟨_, rfl⟩
      have h93 := hD 26 _ 93 rfl rfl (by kernel_rfl)
      rw [e93] at h93
      simp only [Array.getD_eq_getD_getElem?] at e93
      obtain rfl := h93
      obtain ⟨v91, e91⟩ : ∃ x, a.tmps.getD 91 undef = x := ⟨_, rfl⟩
      have h91 := hD 24 _ 91 rfl rfl (by kernel_rfl)
      rw [e91] at h91
      simp only [Array.getD_eq_getD_getElem?] at e91
      obtain rfl := h91
      have z9 := getD_bool7 e91
      go_simp
      exact hK _ _ (Ext.refl _) rfl
    · intro a W hW hB hD K hK
      obtain ⟨v94, e94⟩ : ∃ x, a.tmps.getD 94 undef = x := ⟨_, rfl⟩
      have h94 := hD 27 _ 94 rfl rfl (by kernel_rfl)
      rw [e94] at h94
      simp only [Array.getD_eq_getD_getElem?] at e94
      obtain rfl := h94
      go_simp
      exact hK _ _ (Ext.refl _) rfl
    · intro a W hW hB hD K hK
      have b8 := hB 8 rfl
      simp only [Array.getD_eq_getD_getElem?, List.getElem?_toArray, List.getElem?_cons_succ, List.getElem?_cons_zero, Option.getD_some] at b8
      obtain ⟨v95, e95⟩ : ∃ x, a.tmps.getD 95 undef = x := ⟨_, rfl⟩
      have h95 := hD 28 _ 95 rfl rfl (by kernel_rfl)
      rw [e95] at h95
      simp only [Array.getD_eq_getD_getElem?] at e95
      obtain rfl := h95
      have z9 := getD_bool7 e95
      go_simp
      exact hK _ _ (Ext.refl _) rfl
    · intro a W hW hB hD K hK
      have b14 := hB 14 rfl
      simp only [Array.getD_eq_getD_getElem?, List.getElem?_toArray, List.getElem?_cons_succ, List.getElem?_cons_zero, Option.getD_some] at b14
      obtain ⟨v95, e95⟩ : ∃ x, a.tmps.getD 95 undef = x := ⟨_, rfl⟩
      have h95 := hD 28 _ 95 rfl rfl (by kernel_rfl)
      rw [e95] at h95
      simp only [Array.getD_eq_getD_getElem?] at e95
      obtain rfl := h95
      have z9 := getD_bool7 e95
      go_simp
      exact hK _ _ (Ext.refl _) rfl
    · intro a W hW hB hD K hK
      obtain ⟨v96, e96⟩ : ∃ x, a.tmps.getD 96 undef = x := ⟨_, rfl⟩
      have h96 := hD 29 _ 96 rfl rfl (by kernel_rfl)
      rw [e96] at h96
      simp only [Array.getD_eq_getD_getElem?] at e96
      obtain rfl := h96
      obtain ⟨v97, e97⟩ : ∃ x, a.tmps.getD 97 undef = x := ⟨_, rfl⟩
      have h97 := hD 30 _ 97 rfl rfl (by kernel_rfl)
      rw [e97] at h97
      simp only [Array.getD_eq_getD_getElem?] at e97
      obtain rfl := h97
      obtain ⟨v95, e95⟩ : ∃ x, a.tmps.getD 95 undef = x := ⟨_, rfl⟩
      have h95 := hD 28 _ 95 rfl rfl (by kernel_rfl)
      rw [e95] at h95
      simp only [Array.getD_eq_getD_getElem?] at e95
      obtain rfl := h95
      have z9 := getD_bool7 e95
      go_simp
      refine (equalWts_any _ _ wa7 wa7 _ (W1.out.ext hW) (WN.out.ext hW)).mono ?_
      rintro e w9 ⟨rfl, hx⟩
      exact hK _ _ hx (congrArg Value.bool (decide_eq_true rfl))
    · intro a W hW hB hD K hK
      obtain ⟨v98, e98⟩ : ∃ x, a.tmps.getD 98 undef = x := ⟨_, rfl⟩
      have h98 := hD 31 _ 98 rfl rfl (by kernel_rfl)
      rw [e98] at h98
      simp only [Array.getD_eq_getD_getElem?] at e98
      obtain rfl := h98
      obtain ⟨v95, e95⟩ : ∃ x, a.tmps.getD 95 undef = x := ⟨_, rfl⟩
      have h95 := hD 28 _ 95 rfl rfl (by kernel_rfl)
      rw [e95] at h95
      simp only [Array.getD_eq_getD_getElem?] at e95
      obtain rfl := h95
      have z9 := getD_bool7 e95
      go_simp
      exact hK _ _ (Ext.refl _) rfl
    · intro a W hW hB hD K hK
      obtain ⟨v99, e99⟩ : ∃ x, a.tmps.getD 99 undef = x := ⟨_, rfl⟩
      have h99 := hD 32 _ 99 rfl rfl (by kernel_rfl)
      rw [e99] at h99
      simp only [Array.getD_eq_getD_getElem?] at e99
      obtain rfl := h99
      go_simp
      exact hK _ _ (Ext.refl _) rfl
    · intro a W hW hB hD K hK
      have b11 := hB 11 rfl
      simp only [Array.getD_eq_getD_getElem?, List.getElem?_toArray, List.getElem?_cons_succ, List.getElem?_cons_zero, Option.getD_some] at b11
      obtain ⟨v100, e100⟩ : ∃ x, a.tmps.getD 100 undef = x := ⟨_, rfl⟩
      have h100 := hD 33 _ 100 rfl rfl (by kernel_rfl)
      rw [e100] at h100
      simp only [Array.getD_eq_getD_getElem?] at e100
      obtain rfl := h100
      have z9 := getD_bool7 e100
      go_simp
      exact hK _ _ (Ext.refl _) rfl
    · intro a W hW hB hD K hK
      obtain ⟨v101, e101⟩ : ∃ x, a.tmps.getD 101 undef = x := ⟨_, rfl⟩
      have h101 := hD 34 _ 101 rfl rfl (by kernel_rfl)
      rw [e101] at h101
      simp only [Array.getD_eq_getD_getElem?] at e101
      obtain rfl := h101
      obtain ⟨v100, e100⟩ : ∃ x, a.tmps.getD 100 undef = x := ⟨_, rfl⟩
      have h100 := hD 33 _ 100 rfl rfl (by kernel_rfl)
      rw [e100] at h100
      simp only [Array.getD_eq_getD_getElem?] at e100
      obtain rfl := h100
      have z9 := getD_bool7 e100
      go_simp
      exact hK _ _ (Ext.refl _) rfl
    · intro a W hW hB hD K hK
      obtain ⟨v102, e102⟩ : ∃ x, a.tmps.getD 102 undef = x := ⟨_, rfl⟩
      have h102 := hD 35 _ 102 rfl rfl (by kernel_rfl)
      rw [e102] at h102
      simp only [Array.getD_eq_getD_getElem?] at e102
      obtain rfl := h102
      obtain ⟨v100, e100⟩ : ∃ x, a.tmps.getD 100 undef = x := ⟨_, rfl⟩
      have h100 := hD 33 _ 100 rfl rfl (by kernel_rfl)
      rw [e100] at h100
      simp only [Array.getD_eq_getD_getElem?] at e100
      obtain rfl := h100
      have z9 := getD_bool7 e100
      go_simp
      exact hK _ _ (Ext.refl _) rfl
    · intro a W hW hB hD K hK
      obtain ⟨v103, e103⟩ : ∃ x, a.tmps.getD 103 undef = x := ⟨_, rfl⟩
      have h103 := hD 36 _ 103 rfl rfl (by kernel_rfl)
      rw [e103] at h103
      simp only [Array.getD_eq_getD_getElem?] at e103
      obtain rfl := h103
      go_simp
      exact hK _ _ (Ext.refl _) rfl
    · intro a W hW hB hD K hK
      have b10 := hB 10 rfl
      simp only [Array.getD_eq_getD_getElem?, List.getElem?_toArray, List.getElem?_cons_succ, List.getElem?_cons_zero, Option.getD_some] at b10
      obtain ⟨v104, e104⟩ : ∃ x, a.tmps.getD 104 undef = x := ⟨_, rfl⟩
      have h104 := hD 37 _ 104 rfl rfl (by kernel_rfl)
      rw [e104] at h104
      simp only [Array.getD_eq_getD_getElem?] at e104
      obtain rfl := h104
      have z9 := getD_bool7 e104
      go_simp
      exact hK _ _ (Ext.refl _) rfl
    · intro a W hW hB hD K hK
      obtain ⟨v104, e104⟩ : ∃ x, a.tmps.getD 104 undef = x := ⟨_, rfl⟩
      have h104 := hD 37 _ 104 rfl rfl (by kernel_rfl)
      rw [e104] at h104
      simp only [Array.getD_eq_getD_getElem?] at e104
      obtain rfl := h104
      have z9 := getD_bool7 e104
      go_simp
      refine (of7_k 1 1 (r7 1) (k7_of 1 (by simp)) _).mono ?_
      rintro e w9 ⟨⟨v, rfl, nn⟩, hx⟩
      obtain ⟨s1, s2, s3, s4, rfl⟩ := nn.shape
      exact hK _ _ hx ⟨s1, s2, s3, s4, rfl, nn.rd⟩
    · intro a W hW hB hD K hK
      obtain ⟨v106, e106⟩ : ∃ x, a.tmps.getD 106 undef = x := ⟨_, rfl⟩
      have h106 := hD 39 _ 106 rfl rfl (by kernel_rfl)
      rw [e106] at h106
      simp only [Array.getD_eq_getD_getElem?] at e106
      obtain ⟨s1, s2, s3, s4, rfl, k1⟩ := h106
      obtain ⟨v104, e104⟩ : ∃ x, a.tmps.getD 104 undef = x := ⟨_, rfl⟩
      have h104 := hD 37 _ 104 rfl rfl (by kernel_rfl)
      rw [e104] at h104
      simp only [Array.getD_eq_getD_getElem?] at e104
      obtain rfl := h104
      have z9 := getD_bool7 e104
      go_simp
      exact hK _ _ (Ext.refl _) ⟨s1, s2, s3, s4, rfl, k1⟩
    · intro a W hW hB hD K hK
      obtain ⟨v107, e107⟩ : ∃ x, a.tmps.getD 107 undef = x := ⟨_, rfl⟩
      have h107 := hD 40 _ 107 rfl rfl (by kernel_rfl)
      rw [e107] at h107
      simp only [Array.getD_eq_getD_getElem?] at e107
      obtain ⟨s1, s2, s3, s4, rfl, k1⟩ := h107
      obtain ⟨v104, e104⟩ : ∃ x, a.tmps.getD 104 undef = x := ⟨_, rfl⟩
      have h104 := hD 37 _ 104 rfl rfl (by kernel_rfl)
      rw [e104] at h104
      simp only [Array.getD_eq_getD_getElem?] at e104
      obtain rfl := h104
      have z9 := getD_bool7 e104
      go_simp
      exact hK _ _ ((Ext.refl _).alloc _) ⟨_, rfl, rdWs_blk (Blk.new _ _ _) [(2, r7 1)] 1 rfl (by decide) (fun i y hi => by
        match i, hi with
        | 0, hi => injection hi with hi; subst hi; exact ⟨s1, s2, s3, s4, rfl, rfl, rfl, rfl, k1.ext ((Ext.refl _).alloc _)⟩)⟩
    · intro a W hW hB hD K hK
      obtain ⟨v105, e105⟩ : ∃ x, a.tmps.getD 105 undef = x := ⟨_, rfl⟩
      have h105 := hD 38 _ 105 rfl rfl (by kernel_rfl)
      rw [e105] at h105
      simp only [Array.getD_eq_getD_getElem?] at e105
      obtain rfl := h105
      obtain ⟨v108, e108⟩ : ∃ x, a.tmps.getD 108 undef = x := ⟨_, rfl⟩
      have h108 := hD 41 _ 108 rfl rfl (by kernel_rfl)
      rw [e108] at h108
      simp only [Array.getD_eq_getD_getElem?] at e108
      obtain ⟨b1, rfl, k1⟩ := h108
      obtain ⟨v104, e104⟩ : ∃ x, a.tmps.getD 104 undef = x := ⟨_, rfl⟩
      have h104 := hD 37 _ 104 rfl rfl (by kernel_rfl)
      rw [e104] at h104
      simp only [Array.getD_eq_getD_getElem?] at e104
      obtain rfl := h104
      have z9 := getD_bool7 e104
      go_simp
      refine (equalWts_any _ _ [(2, r7 1)] [(2, r7 1)] _ (W2.out.ext hW) k1).mono ?_
      rintro e w9 ⟨rfl, hx⟩
      exact hK _ _ hx (congrArg Value.bool (decide_eq_true rfl))
    · intro a W hW hB hD K hK
      obtain ⟨v109, e109⟩ : ∃ x, a.tmps.getD 109 undef = x := ⟨_, rfl⟩
      have h109 := hD 42 _ 109 rfl rfl (by kernel_rfl)
      rw [e109] at h109
      simp only [Array.getD_eq_getD_getElem?] at e109
      obtain rfl := h109
      obtain ⟨v104, e104⟩ : ∃ x, a.tmps.getD 104 undef = x := ⟨_, rfl⟩
      have h104 := hD 37 _ 104 rfl rfl (by kernel_rfl)
      rw [e104] at h104
      simp only [Array.getD_eq_getD_getElem?] at e104
      obtain rfl := h104
      have z9 := getD_bool7 e104
      go_simp
      exact hK _ _ (Ext.refl _) rfl
    · intro a W hW hB hD K hK
      obtain ⟨v110, e110⟩ : ∃ x, a.tmps.getD 110 undef = x := ⟨_, rfl⟩
      have h110 := hD 43 _ 110 rfl rfl (by kernel_rfl)
      rw [e110] at h110
      simp only [Array.getD_eq_getD_getElem?] at e110
      obtain rfl := h110
      go_simp
      exact hK _ _ (Ext.refl _) rfl
    · intro a W hW hB hD K hK
      have b13 := hB 13 rfl
      simp only [Array.getD_eq_getD_getElem?, List.getElem?_toArray, List.getElem?_cons_succ, List.getElem?_cons_zero, Option.getD_some] at b13
      obtain ⟨v111, e111⟩ : ∃ x, a.tmps.getD 111 undef = x := ⟨_, rfl⟩
      have h111 := hD 44 _ 111 rfl rfl (by kernel_rfl)
      rw [e111] at h111
      simp only [Array.getD_eq_getD_getElem?] at e111
      obtain rfl := h111
      have z9 := getD_bool7 e111
      go_simp
      exact hK _ _ (Ext.refl _) rfl
    · intro a W hW hB hD K hK
      obtain ⟨v112, e112⟩ : ∃ x, a.tmps.getD 112 undef = x := ⟨_, rfl⟩
      have h112 := hD 45 _ 112 rfl rfl (by kernel_rfl)
      rw [e112] at h112
      simp only [Array.getD_eq_getD_getElem?] at e112
      obtain rfl := h112
      obtain ⟨v111, e111⟩ : ∃ x, a.tmps.getD 111 undef = x := ⟨_, rfl⟩
      have h111 := hD 44 _ 111 rfl rfl (by kernel_rfl)
      rw [e111] at h111
      simp only [Array.getD_eq_getD_getElem?] at e111
      obtain rfl := h111
      have z9 := getD_bool7 e111
      go_simp
      exact hK _ _ (Ext.refl _) rfl
    · intro a W hW hB hD K hK
      obtain ⟨v113, e113⟩ : ∃ x, a.tmps.getD 113 undef = x := ⟨_, rfl⟩
      have h113 := hD 46 _ 113 rfl rfl (by kernel_rfl)
      rw [e113] at h113
      simp only [Array.getD_eq_getD_getElem?] at e113
      obtain rfl := h113
      obtain ⟨v111, e111⟩ : ∃ x, a.tmps.getD 111 undef = x := ⟨_, rfl⟩
      have h111 := hD 44 _ 111 rfl rfl (by kernel_rfl)
      rw [e111] at h111
      simp only [Array.getD_eq_getD_getElem?] at e111
      obtain rfl := h111
      have z9 := getD_bool7 e111
      go_simp
      exact hK _ _ (Ext.refl _) rfl
    · intro a W hW hB hD K hK
      obtain ⟨v114, e114⟩ : ∃ x, a.tmps.getD 114 undef = x := ⟨_, rfl⟩
      have h114 := hD 47 _ 114 rfl rfl (by kernel_rfl)
      rw [e114] at h114
      simp only [Array.getD_eq_getD_getElem?] at e114
      obtain rfl := h114
      go_simp
      exact hK _ _ (Ext.refl _) rfl
    · intro a W hW hB hD K hK
      have b12 := hB 12 rfl
      simp only [Array.getD_eq_getD_getElem?, List.getElem?_toArray, List.getElem?_cons_succ, List.getElem?_cons_zero, Option.getD_some] at b12
      obtain ⟨v115, e115⟩ : ∃ x, a.tmps.getD 115 undef = x := ⟨_, rfl⟩
      have h115 := hD 48 _ 115 rfl rfl (by kernel_rfl)
      rw [e115] at h115
      simp only [Array.getD_eq_getD_getElem?] at e115
      obtain rfl := h115
      have z9 := getD_bool7 e115
      have q99 := (Y.out.ext hW).cell
      go_simp
      exact hK _ _ (Ext.refl _) rfl
    · intro a W hW hB hD K hK
      obtain ⟨v115, e115⟩ : ∃ x, a.tmps.getD 115 undef = x := ⟨_, rfl⟩
      have h115 := hD 48 _ 115 rfl rfl (by kernel_rfl)
      rw [e115] at h115
      simp only [Array.getD_eq_getD_getElem?] at e115
      obtain rfl := h115
      have z9 := getD_bool7 e115
      go_simp
      refine (of7_k 27 1 (r7 27) (k7_of 27 (by simp)) _).mono ?_
      rintro e w9 ⟨⟨v, rfl, nn⟩, hx⟩
      exact hK _ _ hx nn.rd
    · intro a W hW hB hD K hK
      obtain ⟨v116, e116⟩ : ∃ x, a.tmps.getD 116 undef = x := ⟨_, rfl⟩
      have h116 := hD 49 _ 116 rfl rfl (by kernel_rfl)
      rw [e116] at h116
      simp only [Array.getD_eq_getD_getElem?] at e116
      obtain rfl := h116
      obtain ⟨v117, e117⟩ : ∃ x, a.tmps.getD 117 undef = x := ⟨_, rfl⟩
      have h117 := hD 50 _ 117 rfl rfl (by kernel_rfl)
      rw [e117] at h117
      simp only [Array.getD_eq_getD_getElem?] at e117
      obtain ⟨v115, e115⟩ : ∃ x, a.tmps.getD 115 undef = x := ⟨_, rfl⟩
      have h115 := hD 48 _ 115 rfl rfl (by kernel_rfl)
      rw [e115] at h115
      simp only [Array.getD_eq_getD_getElem?] at e115
      obtain rfl := h115
      have z9 := getD_bool7 e115
      go_simp
      refine (equalRat_any _ _ (r7 27) (r7 27) _ (YR.out.ext hW) h117).mono ?_
      rintro e w9 ⟨rfl, hx⟩
      exact hK _ _ hx (congrArg Value.bool (decide_eq_true rfl))
    · intro a W hW hB hD K hK
      obtain ⟨v118, e118⟩ : ∃ x, a.tmps.getD 118 undef = x := ⟨_, rfl⟩
      have h118 := hD 51 _ 118 rfl rfl (by kernel_rfl)
      rw [e118] at h118
      simp only [Array.getD_eq_getD_getElem?] at e118
      obtain rfl := h118
      obtain ⟨v115, e115⟩ : ∃ x, a.tmps.getD 115 undef = x := ⟨_, rfl⟩
      have h115 := hD 48 _ 115 rfl rfl (by kernel_rfl)
      rw [e115] at h115
      simp only [Array.getD_eq_getD_getElem?] at e115
      obtain rfl := h115
      have z9 := getD_bool7 e115
      go_simp
      exact hK _ _ (Ext.refl _) rfl
    · intro a W hW hB hD K hK
      obtain ⟨v119, e119⟩ : ∃ x, a.tmps.getD 119 undef = x := ⟨_, rfl⟩
      have h119 := hD 52 _ 119 rfl rfl (by kernel_rfl)
      rw [e119] at h119
      simp only [Array.getD_eq_getD_getElem?] at e119
      obtain rfl := h119
      go_simp
      exact hK _ _ (Ext.refl _) rfl
  intro w9 hx
  simp only [Vals]
  intro z0v _ z1v _ z2v _ z3v _ z4v _ z5v _ z6v _ z7v _ z8v _ z9v _ z10v _ z11v _ z12v _ z13v _ z14v _ z15v _ z16v _ z17v _ z18v _ z19v _ z20v _ z21v _ z22v _ z23v _ z24v _ z25v _ z26v _ z27v _ z28v _ z29v _ z30v _ z31v _ z32v _ z33v _ z34v _ z35v _ z36v _ z37v _ z38v _ z39v _ z40v _ z41v _ z42v _ z43v _ z44v _ z45v _ z46v _ z47v _ z48v _ z49v _ z50v _ z51v _ z52v _ z53v h53
  obtain rfl : z53v = .bool true := h53
  simp only [Act.put, List.setIfInBounds_toArray, List.set_cons_zero, List.set_cons_succ]
  have PL := Lib.hid (PL.out.ext hx); have PT := Lib.hid (PT.out.ext hx); have W1 := Lib.hid (W1.out.ext hx); have W2 := Lib.hid (W2.out.ext hx); have Y := Lib.hid (Y.out.ext hx); have YR := Lib.hid (YR.out.ext hx); have WN := Lib.hid (WN.out.ext hx); have X := Lib.hid (X.out.trans hx)
  clear hx
  go_wp2_with fail
  go_ret
  exact ⟨rfl, X.out⟩
end Go.Proofs.YthkfkfbfblppeaaGreat
