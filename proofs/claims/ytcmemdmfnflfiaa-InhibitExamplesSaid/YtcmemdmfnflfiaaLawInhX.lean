/- Walk of the law InhibitExamples: it returns true (written by mkinhx.py). Conditions: none. -/
import Derived.Test.YtcmemdmfnflfiaaAwake
import Derived.Test.YtcmemdmfnflfiaaInhF
import Derived.Test.YtcmemdmfnflfiaaEq
import Derived.Test.YtcmemdmfnflfiaaEach
import Derived.ArgAppend
import Derived.Deep.AppendLies
namespace Go.Proofs.Ytcmemdmfnflfiaa
set_option linter.unusedSimpArgs false
set_option linter.unusedVariables false
open Go.RowKit

theorem rd_nilI (W : World) : RdI .i64 W (.slice none 0 0) [] := ⟨none, 0, rfl, Nat.le_refl _, by simp, fun i hi => by simp at hi⟩
theorem rd_nilB (W : World) : RdBnd W (.slice none 0 0) [] := ⟨none, 0, rfl, Nat.le_refl _, by simp, fun i hi => by simp at hi⟩
theorem upd_chk (de dl se sl ae al r : Int) : ∃ p q s, upd de dl se sl ae al r false false false 0 = (p, q, s, chk de dl se sl ae al r) := by
  rcases chk_01 (de := de) (dl := dl) (se := se) (sl := sl) (ae := ae) (al := al) (r := r) with h | h
  · exact ⟨_, _, _, by rw [upd_0 h (by decide) (by decide), h]⟩
  · exact ⟨_, _, _, by rw [upd_1 h, h]⟩
theorem run_chk (de dl se sl ae al r : Int) : runR de dl se sl ae al r [] = ([], chk de dl se sl ae al r) := by
  rcases chk_01 (de := de) (dl := dl) (se := se) (sl := sl) (ae := ae) (al := al) (r := r) with h | h
  · rw [runR_0 h (by decide) rfl, h]; rfl
  · rw [runR_1 h, h]
theorem msk_chk (de dl se sl ae al r : Int) : ∃ l, mskR de dl se sl ae al r false false false [(0, 0, 0)] = (l, chk de dl se sl ae al r) := by
  rcases chk_01 (de := de) (dl := dl) (se := se) (sl := sl) (ae := ae) (al := al) (r := r) with h | h
  · exact ⟨_, by rw [mskR_0 (by decide) h, h]⟩
  · exact ⟨_, by rw [mskR_1 (by decide) h, h]⟩
theorem weak_chk (de dl se sl ae al r : Int) : weak (chk de dl se sl ae al r) r false false false 0 0 false = (0, 0, false, chk de dl se sl ae al r) := by
  rcases chk_01 (de := de) (dl := dl) (se := se) (sl := sl) (ae := ae) (al := al) (r := r) with h | h
  · rw [h, weak_s rfl (by decide) ⟨by decide, by decide⟩ rfl (.inl (by decide))]
  · rw [h, weak_c rfl]
def inhG : Array Value := #[.int .i64 0, .int .i64 0, .int .i64 0, .int .i64 0, .int .i64 0, .int .i64 0, .int .i64 0, .int .i64 0, .int .i64 (-1), .int .i64 0, .int .i64 0, .int .i64 0, .int .i64 0, .int .i64 0, .int .i64 0, .int .i64 1, .int .i64 0, .int .i64 0, .int .i64 5, .int .i64 4, .int .i64 0, .int .i64 0, .int .i64 0, .int .i64 1, .int .i64 0, .int .i64 0, .int .i64 0, .int .i64 0, .int .i64 0, .int .i64 50001, .int .i64 0, .int .i64 1, .int .i64 0, .int .i64 0, .int .i64 0, .int .i64 0, .int .i64 0, .int .i64 0, .int .i64 (-1), .int .i64 1, .int .i64 0, .int .i64 0, .int .i64 0, .int .i64 0, .int .i64 0, .int .i64 0, .int .i64 101, .int .i64 1, .int .i64 0, .int .i64 0, .int .i64 0, .int .i64 0, .int .i64 50000, .int .i64 50000, .int .i64 100, .int .i64 0]
theorem inhx_row {W : World} {g k : Nat} (hg : Blk W g inhG 28) (hk : k < 7) : ∃ h0 h1 h2 h3 h4 h5 h6 x, W.cell? ⟨g, k * 8, none⟩ = some (.int .i64 h0) ∧ W.cell? ⟨g, k * 8 + 1, none⟩ = some (.int .i64 h1) ∧ W.cell? ⟨g, k * 8 + 2, none⟩ = some (.int .i64 h2) ∧ W.cell? ⟨g, k * 8 + 3, none⟩ = some (.int .i64 h3) ∧ W.cell? ⟨g, k * 8 + 4, none⟩ = some (.int .i64 h4) ∧ W.cell? ⟨g, k * 8 + 5, none⟩ = some (.int .i64 h5) ∧ W.cell? ⟨g, k * 8 + 6, none⟩ = some (.int .i64 h6) ∧ W.cell? ⟨g, k * 8 + 7, none⟩ = some (.int .i64 x) ∧ chk h0 h1 h2 h3 h4 h5 h6 = x := by
  match k, hk with
  | 0, _ => exact ⟨0, 0, 0, 0, 0, 0, 0, 0, hg.cell 0, hg.cell 1, hg.cell 2, hg.cell 3, hg.cell 4, hg.cell 5, hg.cell 6, hg.cell 7, by decide⟩
  | 1, _ => exact ⟨(-1), 0, 0, 0, 0, 0, 0, 1, hg.cell 8, hg.cell 9, hg.cell 10, hg.cell 11, hg.cell 12, hg.cell 13, hg.cell 14, hg.cell 15, by decide⟩
  | 2, _ => exact ⟨0, 0, 5, 4, 0, 0, 0, 1, hg.cell 16, hg.cell 17, hg.cell 18, hg.cell 19, hg.cell 20, hg.cell 21, hg.cell 22, hg.cell 23, by decide⟩
  | 3, _ => exact ⟨0, 0, 0, 0, 0, 50001, 0, 1, hg.cell 24, hg.cell 25, hg.cell 26, hg.cell 27, hg.cell 28, hg.cell 29, hg.cell 30, hg.cell 31, by decide⟩
  | 4, _ => exact ⟨0, 0, 0, 0, 0, 0, (-1), 1, hg.cell 32, hg.cell 33, hg.cell 34, hg.cell 35, hg.cell 36, hg.cell 37, hg.cell 38, hg.cell 39, by decide⟩
  | 5, _ => exact ⟨0, 0, 0, 0, 0, 0, 101, 1, hg.cell 40, hg.cell 41, hg.cell 42, hg.cell 43, hg.cell 44, hg.cell 45, hg.cell 46, hg.cell 47, by decide⟩
  | 6, _ => exact ⟨0, 0, 0, 0, 50000, 50000, 100, 0, hg.cell 48, hg.cell 49, hg.cell 50, hg.cell 51, hg.cell 52, hg.cell 53, hg.cell 54, hg.cell 55, by decide⟩
/-- A list of advisories in a block of its own. -/
theorem bnds_rd {W : World} {b : Nat} {c : Array Value} (l : List Bnd) (n : Nat) (h : Blk W b c 41) (hl : l.length = n) (hc : c.toList = (l.map fun x => [Value.int .u8 x.1, .int .i64 x.2.1, .int .i64 x.2.2]).flatten) (hn : c.size = n * 3) (hs : n ≤ 1000000) : RdBnd W (.slice (some ⟨b, 0, none⟩) n n) l :=
  rdN_of_blk h 3 n _ (by rw [List.length_map, hl]) (fun y hy => by obtain ⟨x, _, rfl⟩ := List.mem_map.1 hy; rfl) hc hn hs

/-- What the first operations of 'append(make([]int, nMany), nHigh+1)' leave. -/
def inhJ (j : Nat) (v : Value) (W : World) : Prop :=
  match j with
  | 0 => v = .agg #[.int .i64 1000, .int .i64 1200, .int .i64 1500, .int .i64 1700, .int .i64 300, .int .i64 400, .int .i64 25]
  | 1 => ∃ b, v = .slice (some ⟨b, 0, none⟩) 1024 1024 ∧ Blk W b (List.replicate 1024 (Value.int .i64 0)).toArray 3
  | 2 => ∃ b, v = .slice (some ⟨b, 0, none⟩) 1 1 ∧ Blk W b [Value.int .i64 60001].toArray 3
  | 3 => RdI .i64 W v (List.replicate 1024 0 ++ [60001])
  | 4 => ∃ u, v = .tuple #[u, .int .i64 4]
  | 5 => ∃ u, v = .tuple #[u, .int .i64 4]
  | 7 => v = .int .i64 4
  | 9 => v = .int .i64 4
  | _ => True
theorem inhJ_ext {j : Nat} {v : Value} {W W' : World} (h : inhJ j v W) (x : Ext W W') : inhJ j v W' := by
  match j, h with
  | 0, h => exact h
  | 1, ⟨b, h1, h2⟩ => exact ⟨b, h1, h2.ext x⟩
  | 2, ⟨b, h1, h2⟩ => exact ⟨b, h1, h2.ext x⟩
  | 3, h => exact Rd.ext h x
  | 4, h => exact h
  | 5, h => exact h
  | 6, _ => trivial
  | 7, h => exact h
  | 8, _ => trivial
  | 9, h => exact h
  | _ + 10, _ => trivial

set_option maxRecDepth 100000 in
set_option maxHeartbeats 8000000 in
theorem inhx_any (w : World) : Calls Try.prog 3 #[] w fun en w' => en = .returned (.bool true) ∧ Ext w w' := by
  have ca := fun W => upd_any 1000 1200 1500 1700 300 400 25 false false false (-2001) W
  rw [show upd 1000 1200 1500 1700 300 400 25 false false false (-2001) = (false, false, false, 1) by decide] at ca
  dsimp only at ca
  have Ca := Lib.hid ca; clear ca
  have cb := fun W => upd_any 1000 1200 1500 1700 300 400 25 false false false 60001 W
  rw [show upd 1000 1200 1500 1700 300 400 25 false false false 60001 = (false, false, false, 1) by decide] at cb
  dsimp only at cb
  have Cb := Lib.hid cb; clear cb
  have cc := fun W v h => run_any 1000 1200 1500 1700 300 400 25 v (List.replicate 1024 0 ++ [60001]) W h
  rw [show runR 1000 1200 1500 1700 300 400 25 (List.replicate 1024 0 ++ [60001]) = ([], 4) from runR_4 (by decide) (by rw [List.length_append, List.length_replicate]; decide)] at cc
  dsimp only at cc
  have Cc := Lib.hid cc; clear cc
  have cd := fun W v h => run_any 1000 1200 1500 1700 300 400 25 v [-2000, 60000, 60001] W h
  rw [show runR 1000 1200 1500 1700 300 400 25 [-2000, 60000, 60001] = ([], 1) by decide] at cd
  dsimp only at cd
  have Cd := Lib.hid cd; clear cd
  have ce := fun W => mask_any (.slice none 0 0) 0 0 0 0 0 0 (-1) false false false [] W (rd_nilB W)
  rw [show mskR 0 0 0 0 0 0 (-1) false false false [] = ([], 3) by decide] at ce
  dsimp only at ce
  have Ce := Lib.hid ce; clear ce
  have cf := fun W => weak_any 1000 1200 1500 1700 300 400 25 false false false 3 101 false W (by decide)
  rw [show weak (chk 1000 1200 1500 1700 300 400 25) 25 false false false 3 101 false = (0, 0, false, 6) by decide] at cf
  dsimp only at cf
  have Cf := Lib.hid cf; clear cf
  have cg := fun W => weak_any 1000 1200 1500 1700 300 400 25 false false false 0 101 false W (by decide)
  rw [show weak (chk 1000 1200 1500 1700 300 400 25) 25 false false false 0 101 false = (0, 0, false, 1) by decide] at cg
  dsimp only at cg
  have Cg := Lib.hid cg; clear cg
  have ci := fun W => weak_any 1000 1200 1500 1700 300 400 25 false false true 0 (-101) false W (by decide)
  rw [show weak (chk 1000 1200 1500 1700 300 400 25) 25 false false true 0 (-101) false = (0, 0, false, 1) by decide] at ci
  dsimp only at ci
  have Ci := Lib.hid ci; clear ci
  have cj := fun W => weak_any 1000 1200 1500 1700 300 400 25 false false true 1 9 false W (by decide)
  rw [show weak (chk 1000 1200 1500 1700 300 400 25) 25 false false true 1 9 false = (0, 0, false, 0) by decide] at cj
  dsimp only at cj
  have Cj := Lib.hid cj; clear cj
  have ck := fun W => weak_any 1000 1200 1500 1700 300 400 25 true true false 1 90 false W (by decide)
  rw [show weak (chk 1000 1200 1500 1700 300 400 25) 25 true true false 1 90 false = (1, 90, false, 0) by decide] at ck
  dsimp only at ck
  have Ck := Lib.hid ck; clear ck
  have cl := fun W => weak_any 1000 1200 1500 1700 300 400 25 false true false 2 25 false W (by decide)
  rw [show weak (chk 1000 1200 1500 1700 300 400 25) 25 false true false 2 25 false = (2, 25, false, 0) by decide] at cl
  dsimp only at cl
  have Cl := Lib.hid cl; clear cl
  have cm := fun W => weak_any 1000 1200 1500 1700 300 400 0 false true false 2 1 false W (by decide)
  rw [show weak (chk 1000 1200 1500 1700 300 400 0) 0 false true false 2 1 false = (2, 0, true, 0) by decide] at cm
  dsimp only at cm
  have Cm := Lib.hid cm; clear cm
  have cn := fun W v h => mask_any v 1000 1200 1500 1700 300 400 0 false true false [(0, -9, -9), (1, 0, 5), (1, -5, -1)] W h
  rw [show mskR 1000 1200 1500 1700 300 400 0 false true false [(0, -9, -9), (1, 0, 5), (1, -5, -1)] = ([true, true, false], 0) by decide] at cn
  dsimp only at cn
  have Cn := Lib.hid cn; clear cn
  have co := fun W v h => mask_any v 1000 1200 1500 1700 300 400 0 false false true [(0, 0, 0), (1, 9, 9)] W h
  rw [show mskR 1000 1200 1500 1700 300 400 0 false false true [(0, 0, 0), (1, 9, 9)] = ([true, false], 0) by decide] at co
  dsimp only at co
  have Co := Lib.hid co; clear co
  go_enter Try.func3, Try.ntmps3
  have X := Lib.hid (Ext.refl w)
  go_wp2_with fail
  refine (awake30_any _).mono ?_
  rintro e w1 ⟨rfl, hx⟩
  have X := Lib.hid (X.out.trans hx)
  clear hx
  go_wp2_with fail
  have bz := Blk.new w1 inhG 28
  have hx : Ext w1 (w1.alloc (.cells inhG 28)) := (Ext.refl _).alloc _
  obtain ⟨Gn, hG⟩ : ∃ n, n = w1.heap.size := ⟨_, rfl⟩
  obtain ⟨w2, hw2⟩ : ∃ W, W = w1.alloc (.cells inhG 28) := ⟨_, rfl⟩
  rw [show w1.alloc (.cells #[.int .i64 0, .int .i64 0, .int .i64 0, .int .i64 0, .int .i64 0, .int .i64 0, .int .i64 0, .int .i64 0, .int .i64 (-1), .int .i64 0, .int .i64 0, .int .i64 0, .int .i64 0, .int .i64 0, .int .i64 0, .int .i64 1, .int .i64 0, .int .i64 0, .int .i64 5, .int .i64 4, .int .i64 0, .int .i64 0, .int .i64 0, .int .i64 1, .int .i64 0, .int .i64 0, .int .i64 0, .int .i64 0, .int .i64 0, .int .i64 50001, .int .i64 0, .int .i64 1, .int .i64 0, .int .i64 0, .int .i64 0, .int .i64 0, .int .i64 0, .int .i64 0, .int .i64 (-1), .int .i64 1, .int .i64 0, .int .i64 0, .int .i64 0, .int .i64 0, .int .i64 0, .int .i64 0, .int .i64 101, .int .i64 1, .int .i64 0, .int .i64 0, .int .i64 0, .int .i64 0, .int .i64 50000, .int .i64 50000, .int .i64 100, .int .i64 0] 28) = w2 from hw2.symm]
  rw [← hw2] at bz hx; rw [← hG] at bz ⊢; clear hw2 hG
  have X := Lib.hid (X.out.trans hx)
  have G := Lib.hid bz; clear hx bz
  skip
  go_loopw [68] (fun i wr => ∃ k : Nat, k ≤ 7 ∧ i = .int .i64 k ∧ Ext w2 wr) (fun i _ => 7 - (intOf i).toNat)
  case atStart => exact ⟨0, by omega, rfl, Ext.refl _⟩
  case round =>
    obtain ⟨k, hk, rfl, hext⟩ := hrel
    have G := Lib.hid (G.out.ext hext)
    have XX := Lib.hid (X.out.trans hext)
    have X := Lib.hid hext
    clear hext
    by_cases hlt : k < 7
    · obtain ⟨h0, h1, h2, h3, h4, h5, h6, x, c0, c1, c2, c3, c4, c5, c6, c7, hck⟩ := inhx_row G.out hlt
      have lG := G.out.lt
      obtain ⟨p, q, s, hu⟩ := upd_chk h0 h1 h2 h3 h4 h5 h6
      obtain ⟨ml, hml⟩ := msk_chk h0 h1 h2 h3 h4 h5 h6
      rw [hck] at hu hml
      have q1 : (0 : Int) ≤ (k : Int) := by omega
      have q2 : (k : Int) < 7 := by omega
      have c1 := fun W => upd_any h0 h1 h2 h3 h4 h5 h6 false false false 0 W
      rw [hu] at c1
      dsimp only at c1
      have C1 := Lib.hid c1; clear c1
      have c2 := fun W => run_any h0 h1 h2 h3 h4 h5 h6 (.slice none 0 0) [] W (rd_nilI W)
      rw [run_chk] at c2
      rw [hck] at c2
      dsimp only at c2
      have C2 := Lib.hid c2; clear c2
      have c3 := fun W v h => mask_any v h0 h1 h2 h3 h4 h5 h6 false false false [(0, 0, 0)] W h
      rw [hml] at c3
      dsimp only at c3
      have C3 := Lib.hid c3; clear c3
      have c4 := fun W => weak_any h0 h1 h2 h3 h4 h5 h6 false false false 0 0 false W (by decide)
      rw [weak_chk] at c4
      rw [hck] at c4
      dsimp only at c4
      have C4 := Lib.hid c4; clear c4
      have c9 := fun W => check_any h0 h1 h2 h3 h4 h5 h6 W
      rw [hck] at c9
      have C5 := Lib.hid c9
      clear c9 hck hu hml
      go_wp2_with fail
      clear c0 c1 c2 c3 c4 c5 c6 c7 lG
      have bz := Blk.new wr #[.int .i64 h0, .int .i64 h1, .int .i64 h2, .int .i64 h3, .int .i64 h4, .int .i64 h5, .int .i64 h6, .int .i64 x] 28
      have hx : Ext wr (wr.alloc (.cells #[.int .i64 h0, .int .i64 h1, .int .i64 h2, .int .i64 h3, .int .i64 h4, .int .i64 h5, .int .i64 h6, .int .i64 x] 28)) := (Ext.refl _).alloc _
      obtain ⟨XBn, hXB⟩ : ∃ n, n = wr.heap.size := ⟨_, rfl⟩
      obtain ⟨w3, hw3⟩ : ∃ W, W = wr.alloc (.cells #[.int .i64 h0, .int .i64 h1, .int .i64 h2, .int .i64 h3, .int .i64 h4, .int .i64 h5, .int .i64 h6, .int .i64 x] 28) := ⟨_, rfl⟩
      rw [← hw3] at bz hx ⊢; rw [← hXB] at bz ⊢; clear hw3 hXB
      have G := Lib.hid (G.out.ext hx); have X := Lib.hid (X.out.trans hx)
      have XB := Lib.hid bz; clear hx bz
      have qXB := XB.out.cell; have fXB := XB.out.free; have lXB := XB.out.lt
      go_wp2_with fail
      refine (C1.out _).mono ?_
      rintro e w4 ⟨rfl, hx⟩
      have hx := Ext.trans (show Ext w3 _ from by (repeat (first | (with_reducible exact Ext.refl _) | (with_reducible assumption) | (with_reducible refine Ext.alloc ?_ _) | ((with_reducible refine Ext.setp ?_ ?_); focus (dsimp only; omega)) | (with_reducible refine Ext.drew ?_) | (with_reducible refine Ext.drewN ?_ _) | (with_reducible refine Ext.trans ?_ (by assumption))))) hx
      clear qXB fXB lXB
      have G := Lib.hid (G.out.ext hx); have XB := Lib.hid (XB.out.ext hx); have X := Lib.hid (X.out.trans hx)
      clear hx
      have qXB := XB.out.cell; have fXB := XB.out.free; have lXB := XB.out.lt
      go_wp2_with fail
      refine (C2.out _).mono ?_
      rintro e w5 ⟨⟨v, rfl, -⟩, hx⟩
      have hx := Ext.trans (show Ext w4 _ from by (repeat (first | (with_reducible exact Ext.refl _) | (with_reducible assumption) | (with_reducible refine Ext.alloc ?_ _) | ((with_reducible refine Ext.setp ?_ ?_); focus (dsimp only; omega)) | (with_reducible refine Ext.drew ?_) | (with_reducible refine Ext.drewN ?_ _) | (with_reducible refine Ext.trans ?_ (by assumption))))) hx
      clear qXB fXB lXB
      have G := Lib.hid (G.out.ext hx); have XB := Lib.hid (XB.out.ext hx); have X := Lib.hid (X.out.trans hx)
      clear hx
      have qXB := XB.out.cell; have fXB := XB.out.free; have lXB := XB.out.lt
      go_wp2_with fail
      refine (C3.out _ _ (bnds_rd [(0, 0, 0)] 1 (Blk.new w5 _ _) rfl rfl rfl (by decide))).mono ?_
      rintro e w6 ⟨⟨v2, rfl, -⟩, hx⟩
      have hx := Ext.trans (show Ext w5 _ from by (repeat (first | (with_reducible exact Ext.refl _) | (with_reducible assumption) | (with_reducible refine Ext.alloc ?_ _) | ((with_reducible refine Ext.setp ?_ ?_); focus (dsimp only; omega)) | (with_reducible refine Ext.drew ?_) | (with_reducible refine Ext.drewN ?_ _) | (with_reducible refine Ext.trans ?_ (by assumption))))) hx
      clear qXB fXB lXB
      have G := Lib.hid (G.out.ext hx); have XB := Lib.hid (XB.out.ext hx); have X := Lib.hid (X.out.trans hx)
      clear hx
      have qXB := XB.out.cell; have fXB := XB.out.free; have lXB := XB.out.lt
      go_wp2_with fail
      refine (C4.out _).mono ?_
      rintro e w7 ⟨rfl, hx⟩
      have hx := Ext.trans (show Ext w6 _ from by (repeat (first | (with_reducible exact Ext.refl _) | (with_reducible assumption) | (with_reducible refine Ext.alloc ?_ _) | ((with_reducible refine Ext.setp ?_ ?_); focus (dsimp only; omega)) | (with_reducible refine Ext.drew ?_) | (with_reducible refine Ext.drewN ?_ _) | (with_reducible refine Ext.trans ?_ (by assumption))))) hx
      clear qXB fXB lXB
      have G := Lib.hid (G.out.ext hx); have XB := Lib.hid (XB.out.ext hx); have X := Lib.hid (X.out.trans hx)
      clear hx
      have qXB := XB.out.cell; have fXB := XB.out.free; have lXB := XB.out.lt
      go_wp2_with fail
      clear qXB fXB lXB
      obtain ⟨wa, hwa⟩ : ∃ W, W = w7.alloc (.cells #[.int .u8 0, .int .i64 0, .bool false] 44) := ⟨_, rfl⟩
      have hx : Ext w7 wa := by rw [hwa]; exact (Ext.refl _).alloc _
      rw [← hwa]; clear hwa
      have G := Lib.hid (G.out.ext hx); have XB := Lib.hid (XB.out.ext hx); have X := Lib.hid (X.out.trans hx)
      clear hx
      have qXB := XB.out.cell; have fXB := XB.out.free; have lXB := XB.out.lt
      (refine wp_region_quietE (by kernel_rfl) (by kernel_rfl) ?_; (repeat (go_big_quiet_step ((go_at_call 14; exact quietE (C5.out _))))); refine wpQuiet_nil ?_; rintro w1 ⟨⟨_, hx1⟩, rfl⟩; (try dsimp only))
      clear qXB fXB lXB
      have X := Lib.hid (X.out.trans hx1)
      go_wp2_with fail
      go_roundw
      case rel => exact ⟨k + 1, by omega, by go_num, X.out⟩
      case measure => simp [intOf]; omega
    · obtain rfl : k = 7 := by omega
      have X := XX
      go_wp2_with fail
      refine (heights_any _).mono ?_
      rintro e w3 ⟨rfl, hx⟩
      have X := Lib.hid (X.out.trans hx)
      clear hx
      go_wp2_with fail
      have hHW : w.heap.size ≤ w3.heap.size := X.out.size
      have bz := Blk.new w3 #[.int .i64 1000, .int .i64 1200, .int .i64 1500, .int .i64 1700, .int .i64 300, .int .i64 400, .int .i64 25] 26
      have hx : Ext w3 (w3.alloc (.cells #[.int .i64 1000, .int .i64 1200, .int .i64 1500, .int .i64 1700, .int .i64 300, .int .i64 400, .int .i64 25] 26)) := (Ext.refl _).alloc _
      obtain ⟨Hn, hH⟩ : ∃ n, n = w3.heap.size := ⟨_, rfl⟩
      obtain ⟨w4, hw4⟩ : ∃ W, W = w3.alloc (.cells #[.int .i64 1000, .int .i64 1200, .int .i64 1500, .int .i64 1700, .int .i64 300, .int .i64 400, .int .i64 25] 26) := ⟨_, rfl⟩
      rw [← hw4] at bz hx ⊢; rw [← hH] at bz hHW ⊢; clear hw4 hH
      have X := Lib.hid (X.out.trans hx)
      have H := Lib.hid bz; clear hx bz
      have HW : Hid (w.heap.size ≤ Hn) := Lib.hid hHW; clear hHW
      have qH := H.out.cell; have fH := H.out.free; have lH := H.out.lt
      go_wp2_with fail
      refine (Ca.out _).mono ?_
      rintro e w5 ⟨rfl, hx⟩
      have hx := Ext.trans (show Ext w4 _ from by (repeat (first | (with_reducible exact Ext.refl _) | (with_reducible assumption) | (with_reducible refine Ext.alloc ?_ _) | ((with_reducible refine Ext.setp ?_ ?_); focus (dsimp only; omega)) | (with_reducible refine Ext.drew ?_) | (with_reducible refine Ext.drewN ?_ _) | (with_reducible refine Ext.trans ?_ (by assumption))))) hx
      clear qH fH lH
      have H := Lib.hid (H.out.ext hx); have X := Lib.hid (X.out.trans hx)
      clear hx
      have qH := H.out.cell; have fH := H.out.free; have lH := H.out.lt
      go_wp2_with fail
      refine (Cb.out _).mono ?_
      rintro e w6 ⟨rfl, hx⟩
      have hx := Ext.trans (show Ext w5 _ from by (repeat (first | (with_reducible exact Ext.refl _) | (with_reducible assumption) | (with_reducible refine Ext.alloc ?_ _) | ((with_reducible refine Ext.setp ?_ ?_); focus (dsimp only; omega)) | (with_reducible refine Ext.drew ?_) | (with_reducible refine Ext.drewN ?_ _) | (with_reducible refine Ext.trans ?_ (by assumption))))) hx
      clear qH fH lH
      have H := Lib.hid (H.out.ext hx); have X := Lib.hid (X.out.trans hx)
      clear hx
      have qH := H.out.cell; have fH := H.out.free; have lH := H.out.lt
      go_wp2_with fail
      clear qH fH lH
      obtain ⟨wb, hwb⟩ : ∃ W, W = w6.alloc (.cells #[.bool false, .bool false, .bool false] 31) := ⟨_, rfl⟩
      have hx : Ext w6 wb := by rw [hwb]; exact (Ext.refl _).alloc _
      rw [← hwb]; clear hwb
      have H := Lib.hid (H.out.ext hx); have X := Lib.hid (X.out.trans hx)
      clear hx
      refine wp_region_each (inhJ) (by kernel_rfl) (by kernel_rfl) (by kernel_rfl) (fun _ _ _ _ => inhJ_ext) ?_ ?_
      · refine ⟨?_, ?_, ?_, ?_, ?_, ?_, ?_, ?_, ?_, ?_, trivial⟩
        · intro a W hW hB hD K hK
          have b11 := hB 11 rfl
          simp only [Array.getD_eq_getD_getElem?, List.getElem?_toArray, List.getElem?_cons_succ, List.getElem?_cons_zero, Option.getD_some] at b11
          have qH := (H.out.ext hW).cell
          go_simp
          exact hK _ _ (Ext.refl _) rfl
        · intro a W hW hB hD K hK
          have hr := make_run W 1024 Try.underlying49 Try.infoInt (by decide) (by decide)
          rw [madeCells_one _ rfl] at hr
          go_simp
          rw [show (Instr.makeSlice 49 (.int .i64 1024) (.int .i64 1024)).run Try.prog W = _ from hr]
          exact hK _ _ ((Ext.refl _).alloc _) ⟨_, rfl, Blk.new _ _ _⟩
        · intro a W hW hB hD K hK
          go_simp
          exact hK _ _ ((Ext.refl _).alloc _) ⟨_, rfl, Blk.new _ _ _⟩
        · intro a W hW hB hD K hK
          obtain ⟨v148, e148⟩ : ∃ x, a.tmps.getD 148 undef = x := ⟨_, rfl⟩
          have h148 := hD 1 _ 148 rfl rfl (by kernel_rfl)
          rw [e148] at h148
          simp only [Array.getD_eq_getD_getElem?] at e148
          obtain ⟨b1, rfl, k1⟩ := h148
          obtain ⟨v149, e149⟩ : ∃ x, a.tmps.getD 149 undef = x := ⟨_, rfl⟩
          have h149 := hD 2 _ 149 rfl rfl (by kernel_rfl)
          rw [e149] at h149
          simp only [Array.getD_eq_getD_getElem?] at e149
          obtain ⟨b2, rfl, k2⟩ := h149
          obtain ⟨i0, hi, hz0, hz1, hz2⟩ := info_parts Try.infoInt
          obtain ⟨v9, w9, hrun, r1, r2⟩ := run_append_arg_grows (P := Try.prog) W 49 49 3 i0 (.int .i64 0) 1 8 Try.underlying49 hi hz0 hz1 hz2 rfl (by decide) ⟨b1, 0, none⟩ 1024 1024 (List.replicate 1024 (.int .i64 0)) List.length_replicate (World.news_of_block k1) ⟨b2, 0, none⟩ 1 1 [.int .i64 60001] rfl (World.news_of_block k2) (by decide) (by unfold maxLen; omega) (by decide)
          rw [if_pos (wanted_none rfl)]
          unfold Oper.wp
          simp only [execOp, resolve, invoke, builtin, Sem.run_bind, Sem.run_pure, Result.andThen_ok, List.map_toArray, List.map_cons, List.map_nil, Act.eval, Array.getD_eq_getD_getElem?, e148, e149, hrun]
          exact hK _ _ (Below.grown (Below.refl _ _) r2 (Nat.le_refl _) (fun k h => by cases h)) (show RdI .i64 w9 v9 (List.replicate 1024 0 ++ [60001]) from own_rd (by rw [List.length_map, List.map_append, List.map_replicate, List.length_append, List.length_replicate]; exact r1))
        · intro a W hW hB hD K hK
          obtain ⟨v147, e147⟩ : ∃ x, a.tmps.getD 147 undef = x := ⟨_, rfl⟩
          have h147 := hD 0 _ 147 rfl rfl (by kernel_rfl)
          rw [e147] at h147
          simp only [Array.getD_eq_getD_getElem?] at e147
          obtain rfl := h147
          obtain ⟨v150, e150⟩ : ∃ x, a.tmps.getD 150 undef = x := ⟨_, rfl⟩
          have h150 := hD 3 _ 150 rfl rfl (by kernel_rfl)
          rw [e150] at h150
          simp only [Array.getD_eq_getD_getElem?] at e150
          go_simp
          refine (Cc.out _ _ h150).mono ?_
          rintro e w9 ⟨⟨v, rfl, -⟩, hx⟩
          exact hK _ _ hx ⟨_, rfl⟩
        · intro a W hW hB hD K hK
          obtain ⟨v151, e151⟩ : ∃ x, a.tmps.getD 151 undef = x := ⟨_, rfl⟩
          have h151 := hD 4 _ 151 rfl rfl (by kernel_rfl)
          rw [e151] at h151
          simp only [Array.getD_eq_getD_getElem?] at e151
          obtain ⟨u, rfl⟩ := h151
          go_simp
          exact hK _ _ (Ext.refl _) ⟨_, rfl⟩
        · intro a W hW hB hD K hK
          obtain ⟨v146, e146⟩ : ∃ x, a.tmps.getD 146 undef = x := ⟨_, rfl⟩
          have h146 := hD 5 _ 146 rfl rfl (by kernel_rfl)
          rw [e146] at h146
          simp only [Array.getD_eq_getD_getElem?] at e146
          obtain ⟨u, rfl⟩ := h146
          go_simp
          exact hK _ _ (Ext.refl _) trivial
        · intro a W hW hB hD K hK
          obtain ⟨v146, e146⟩ : ∃ x, a.tmps.getD 146 undef = x := ⟨_, rfl⟩
          have h146 := hD 5 _ 146 rfl rfl (by kernel_rfl)
          rw [e146] at h146
          simp only [Array.getD_eq_getD_getElem?] at e146
          obtain ⟨u, rfl⟩ := h146
          go_simp
          exact hK _ _ (Ext.refl _) rfl
        · intro a W hW hB hD K hK
          go_simp
          exact hK _ _ (Ext.refl _) trivial
        · intro a W hW hB hD K hK
          obtain ⟨v153, e153⟩ : ∃ x, a.tmps.getD 153 undef = x := ⟨_, rfl⟩
          have h153 := hD 7 _ 153 rfl rfl (by kernel_rfl)
          rw [e153] at h153
          simp only [Array.getD_eq_getD_getElem?] at e153
          obtain rfl := h153
          go_simp
          exact hK _ _ (Ext.refl _) rfl
      intro w9 hx
      simp only [Vals]
      intro v0 _ v1 _ v2 _ v3 _ v4 _ v5 _ v6 _ v7 _ v8 _ v9 h9
      obtain rfl : v9 = .int .i64 4 := h9
      simp only [Act.put, List.setIfInBounds_toArray, List.set_cons_zero, List.set_cons_succ]
      have H := Lib.hid (H.out.ext hx); have X := Lib.hid (X.out.trans hx)
      clear hx
      have qH := H.out.cell; have fH := H.out.free; have lH := H.out.lt
      go_wp2_with fail
      refine (Cd.out _ _ (rd_of_blk (Blk.new w9 #[.int .i64 (-2000), .int .i64 60000, .int .i64 60001] 3) (by decide))).mono ?_
      rintro e w7 ⟨⟨v, rfl, -⟩, hx⟩
      have hx := Ext.trans (show Ext w9 _ from by (repeat (first | (with_reducible exact Ext.refl _) | (with_reducible assumption) | (with_reducible refine Ext.alloc ?_ _) | ((with_reducible refine Ext.setp ?_ ?_); focus (dsimp only; omega)) | (with_reducible refine Ext.drew ?_) | (with_reducible refine Ext.drewN ?_ _) | (with_reducible refine Ext.trans ?_ (by assumption))))) hx
      clear qH fH lH
      have H := Lib.hid (H.out.ext hx); have X := Lib.hid (X.out.trans hx)
      clear hx
      have qH := H.out.cell; have fH := H.out.free; have lH := H.out.lt
      go_wp2_with fail
      refine (Ce.out _).mono ?_
      rintro e w8 ⟨⟨v, rfl, -⟩, hx⟩
      have hx := Ext.trans (show Ext w7 _ from by (repeat (first | (with_reducible exact Ext.refl _) | (with_reducible assumption) | (with_reducible refine Ext.alloc ?_ _) | ((with_reducible refine Ext.setp ?_ ?_); focus (dsimp only; omega)) | (with_reducible refine Ext.drew ?_) | (with_reducible refine Ext.drewN ?_ _) | (with_reducible refine Ext.trans ?_ (by assumption))))) hx
      clear qH fH lH
      have H := Lib.hid (H.out.ext hx); have X := Lib.hid (X.out.trans hx)
      clear hx
      have qH := H.out.cell; have fH := H.out.free; have lH := H.out.lt
      go_wp2_with fail
      refine (Cf.out _).mono ?_
      rintro e w9 ⟨rfl, hx⟩
      have hx := Ext.trans (show Ext w8 _ from by (repeat (first | (with_reducible exact Ext.refl _) | (with_reducible assumption) | (with_reducible refine Ext.alloc ?_ _) | ((with_reducible refine Ext.setp ?_ ?_); focus (dsimp only; omega)) | (with_reducible refine Ext.drew ?_) | (with_reducible refine Ext.drewN ?_ _) | (with_reducible refine Ext.trans ?_ (by assumption))))) hx
      clear qH fH lH
      have H := Lib.hid (H.out.ext hx); have X := Lib.hid (X.out.trans hx)
      clear hx
      have qH := H.out.cell; have fH := H.out.free; have lH := H.out.lt
      go_wp2_with fail
      refine (Cg.out _).mono ?_
      rintro e w10 ⟨rfl, hx⟩
      have hx := Ext.trans (show Ext w9 _ from by (repeat (first | (with_reducible exact Ext.refl _) | (with_reducible assumption) | (with_reducible refine Ext.alloc ?_ _) | ((with_reducible refine Ext.setp ?_ ?_); focus (dsimp only; omega)) | (with_reducible refine Ext.drew ?_) | (with_reducible refine Ext.drewN ?_ _) | (with_reducible refine Ext.trans ?_ (by assumption))))) hx
      clear qH fH lH
      have H := Lib.hid (H.out.ext hx); have X := Lib.hid (X.out.trans hx)
      clear hx
      have qH := H.out.cell; have fH := H.out.free; have lH := H.out.lt
      go_wp2_with fail
      refine (Ci.out _).mono ?_
      rintro e w11 ⟨rfl, hx⟩
      have hx := Ext.trans (show Ext w10 _ from by (repeat (first | (with_reducible exact Ext.refl _) | (with_reducible assumption) | (with_reducible refine Ext.alloc ?_ _) | ((with_reducible refine Ext.setp ?_ ?_); focus (dsimp only; omega)) | (with_reducible refine Ext.drew ?_) | (with_reducible refine Ext.drewN ?_ _) | (with_reducible refine Ext.trans ?_ (by assumption))))) hx
      clear qH fH lH
      have H := Lib.hid (H.out.ext hx); have X := Lib.hid (X.out.trans hx)
      clear hx
      have qH := H.out.cell; have fH := H.out.free; have lH := H.out.lt
      go_wp2_with fail
      refine (Cj.out _).mono ?_
      rintro e w12 ⟨rfl, hx⟩
      have hx := Ext.trans (show Ext w11 _ from by (repeat (first | (with_reducible exact Ext.refl _) | (with_reducible assumption) | (with_reducible refine Ext.alloc ?_ _) | ((with_reducible refine Ext.setp ?_ ?_); focus (dsimp only; omega)) | (with_reducible refine Ext.drew ?_) | (with_reducible refine Ext.drewN ?_ _) | (with_reducible refine Ext.trans ?_ (by assumption))))) hx
      clear qH fH lH
      have H := Lib.hid (H.out.ext hx); have X := Lib.hid (X.out.trans hx)
      clear hx
      have qH := H.out.cell; have fH := H.out.free; have lH := H.out.lt
      go_wp2_with fail
      have hhj : Hn < w12.heap.size := H.out.lt
      clear qH fH lH
      have bz := Blk.new w12 #[.int .u8 0, .int .i64 0, .bool false] 44
      have hx : Ext w12 (w12.alloc (.cells #[.int .u8 0, .int .i64 0, .bool false] 44)) := (Ext.refl _).alloc _
      obtain ⟨Ajn, hAj⟩ : ∃ n, n = w12.heap.size := ⟨_, rfl⟩
      obtain ⟨w13, hw13⟩ : ∃ W, W = w12.alloc (.cells #[.int .u8 0, .int .i64 0, .bool false] 44) := ⟨_, rfl⟩
      rw [← hw13] at bz hx ⊢; rw [← hAj] at bz hhj ⊢; clear hw13 hAj
      have H := Lib.hid (H.out.ext hx); have X := Lib.hid (X.out.trans hx)
      have Aj := Lib.hid bz; clear hx bz
      have HJ : Hid (Ajn ≠ Hn) := Lib.hid (Nat.ne_of_gt hhj); clear hhj
      refine (Ck.out _).mono ?_
      rintro e w14 ⟨rfl, hx⟩
      have H := Lib.hid (H.out.ext hx); have Aj := Lib.hid (Aj.out.ext hx); have X := Lib.hid (X.out.trans hx)
      clear hx
      have qH := H.out.cell; have fH := H.out.free; have lH := H.out.lt
      go_wp2_with fail
      have hhk : Hn < w14.heap.size := H.out.lt
      clear qH fH lH
      have bz := Blk.new w14 #[.int .u8 1, .int .i64 90, .bool false] 44
      have hx : Ext w14 (w14.alloc (.cells #[.int .u8 1, .int .i64 90, .bool false] 44)) := (Ext.refl _).alloc _
      obtain ⟨Akn, hAk⟩ : ∃ n, n = w14.heap.size := ⟨_, rfl⟩
      obtain ⟨w15, hw15⟩ : ∃ W, W = w14.alloc (.cells #[.int .u8 1, .int .i64 90, .bool false] 44) := ⟨_, rfl⟩
      rw [← hw15] at bz hx ⊢; rw [← hAk] at bz hhk ⊢; clear hw15 hAk
      have H := Lib.hid (H.out.ext hx); have Aj := Lib.hid (Aj.out.ext hx); have X := Lib.hid (X.out.trans hx)
      have Ak := Lib.hid bz; clear hx bz
      have HK : Hid (Akn ≠ Hn) := Lib.hid (Nat.ne_of_gt hhk); clear hhk
      refine (Cl.out _).mono ?_
      rintro e w16 ⟨rfl, hx⟩
      have H := Lib.hid (H.out.ext hx); have Aj := Lib.hid (Aj.out.ext hx); have Ak := Lib.hid (Ak.out.ext hx); have X := Lib.hid (X.out.trans hx)
      clear hx
      have qH := H.out.cell; have fH := H.out.free; have lH := H.out.lt
      go_wp2_with fail
      clear qH fH lH
      have bz := Blk.new (w16.setCell ⟨Hn, 6, none⟩ (.int .i64 0)) #[.int .u8 2, .int .i64 25, .bool false] 44
      rw [World.size_setCell] at bz
      have hh := (H.out.set 6 (.int .i64 0)).alloc (.cells #[.int .u8 2, .int .i64 25, .bool false] 44)
      simp only [List.setIfInBounds_toArray, List.set_cons_zero, List.set_cons_succ] at hh
      have jj := (Aj.out.setOther (a := ⟨Hn, 6, none⟩) HJ.out (.int .i64 0)).alloc (.cells #[.int .u8 2, .int .i64 25, .bool false] 44)
      have kk := (Ak.out.setOther (a := ⟨Hn, 6, none⟩) HK.out (.int .i64 0)).alloc (.cells #[.int .u8 2, .int .i64 25, .bool false] 44)
      have xx : Ext w ((w16.setCell ⟨Hn, 6, none⟩ (.int .i64 0)).alloc (.cells #[.int .u8 2, .int .i64 25, .bool false] 44)) := (X.out.set HW.out _).alloc _
      obtain ⟨Aln, hAl⟩ : ∃ n, n = w16.heap.size := ⟨_, rfl⟩
      obtain ⟨wc, hwc⟩ : ∃ W, W = (w16.setCell ⟨Hn, 6, none⟩ (.int .i64 0)).alloc (.cells #[.int .u8 2, .int .i64 25, .bool false] 44) := ⟨_, rfl⟩
      rw [← hwc] at bz hh jj kk xx ⊢; rw [← hAl] at bz ⊢; clear hwc hAl
      have H := Lib.hid hh; have Aj := Lib.hid jj; have Ak := Lib.hid kk; have Al := Lib.hid bz; have X := Lib.hid xx
      clear hh jj kk bz xx
      have qH := H.out.cell; have fH := H.out.free; have lH := H.out.lt
      go_wp2_with fail
      refine (Cm.out _).mono ?_
      rintro e w17 ⟨rfl, hx⟩
      clear qH fH lH
      have H := Lib.hid (H.out.ext hx); have Aj := Lib.hid (Aj.out.ext hx); have Ak := Lib.hid (Ak.out.ext hx); have Al := Lib.hid (Al.out.ext hx); have X := Lib.hid (X.out.trans hx)
      clear hx
      have qH := H.out.cell; have fH := H.out.free; have lH := H.out.lt
      go_wp2_with fail
      clear qH fH lH
      have ba := (Blk.new w17 #[.int .u8 2, .int .i64 0, .bool true] 44).alloc (.cells #[.int .u8 0, .int .i64 (-9), .int .i64 (-9), .int .u8 1, .int .i64 0, .int .i64 5, .int .u8 1, .int .i64 (-5), .int .i64 (-1)] 41)
      have bb := Blk.new (w17.alloc (.cells #[.int .u8 2, .int .i64 0, .bool true] 44)) #[.int .u8 0, .int .i64 (-9), .int .i64 (-9), .int .u8 1, .int .i64 0, .int .i64 5, .int .u8 1, .int .i64 (-5), .int .i64 (-1)] 41
      rw [World.size_alloc] at bb
      have hx : Ext w17 ((w17.alloc (.cells #[.int .u8 2, .int .i64 0, .bool true] 44)).alloc (.cells #[.int .u8 0, .int .i64 (-9), .int .i64 (-9), .int .u8 1, .int .i64 0, .int .i64 5, .int .u8 1, .int .i64 (-5), .int .i64 (-1)] 41)) := ((Ext.refl _).alloc _).alloc _
      obtain ⟨Bbn, hB1⟩ : ∃ n, n = w17.heap.size + 1 := ⟨_, rfl⟩
      obtain ⟨Amn, hB0⟩ : ∃ n, n = w17.heap.size := ⟨_, rfl⟩
      obtain ⟨wd, hwd⟩ : ∃ W, W = ((w17.alloc (.cells #[.int .u8 2, .int .i64 0, .bool true] 44)).alloc (.cells #[.int .u8 0, .int .i64 (-9), .int .i64 (-9), .int .u8 1, .int .i64 0, .int .i64 5, .int .u8 1, .int .i64 (-5), .int .i64 (-1)] 41)) := ⟨_, rfl⟩
      rw [← hwd] at ba bb hx ⊢; rw [← hB1] at bb ⊢; rw [← hB0] at ba ⊢; clear hwd hB1 hB0
      have H := Lib.hid (H.out.ext hx); have Aj := Lib.hid (Aj.out.ext hx); have Ak := Lib.hid (Ak.out.ext hx); have Al := Lib.hid (Al.out.ext hx); have X := Lib.hid (X.out.trans hx)
      have Am := Lib.hid ba; have Bb := Lib.hid bb; clear ba bb hx
      refine (Cn.out _ _ (bnds_rd [(0, -9, -9), (1, 0, 5), (1, -5, -1)] 3 Bb.out rfl rfl rfl (by decide))).mono ?_
      rintro e w18 ⟨⟨vn, rfl, ow⟩, hx⟩
      have H := Lib.hid (H.out.ext hx); have Aj := Lib.hid (Aj.out.ext hx); have Ak := Lib.hid (Ak.out.ext hx); have Al := Lib.hid (Al.out.ext hx); have Am := Lib.hid (Am.out.ext hx); have X := Lib.hid (X.out.trans hx)
      have NV := Lib.hid ow.rd
      clear hx ow
      have qH := H.out.cell; have fH := H.out.free; have lH := H.out.lt
      go_wp2_with fail
      refine (Co.out _ _ (bnds_rd [(0, 0, 0), (1, 9, 9)] 2 (Blk.new w18 _ _) rfl rfl rfl (by decide))).mono ?_
      rintro e w19 ⟨⟨vo, rfl, ow⟩, hx⟩
      have hx := Ext.trans (show Ext w18 _ from by (repeat (first | (with_reducible exact Ext.refl _) | (with_reducible assumption) | (with_reducible refine Ext.alloc ?_ _) | ((with_reducible refine Ext.setp ?_ ?_); focus (dsimp only; omega)) | (with_reducible refine Ext.drew ?_) | (with_reducible refine Ext.drewN ?_ _) | (with_reducible refine Ext.trans ?_ (by assumption))))) hx
      clear qH fH lH
      have H := Lib.hid (H.out.ext hx); have Aj := Lib.hid (Aj.out.ext hx); have Ak := Lib.hid (Ak.out.ext hx); have Al := Lib.hid (Al.out.ext hx); have Am := Lib.hid (Am.out.ext hx); have NV := Lib.hid (NV.out.ext hx); have X := Lib.hid (X.out.trans hx)
      have OV := Lib.hid ow.rd
      clear hx ow
      have hNj : ∀ W, (binOp .eql 44 (.agg #[.int .u8 0, .int .i64 0, .bool false]) (.agg #[.int .u8 0, .int .i64 0, .bool false])).run Try.prog W = .ok (.bool true) W := fun W => by rw [eqAdv, beqD_self]
      have hNk : ∀ W, (binOp .eql 44 (.agg #[.int .u8 1, .int .i64 90, .bool false]) (.agg #[.int .u8 1, .int .i64 90, .bool false])).run Try.prog W = .ok (.bool true) W := fun W => by rw [eqAdv, beqD_self]
      have hNl : ∀ W, (binOp .eql 44 (.agg #[.int .u8 2, .int .i64 25, .bool false]) (.agg #[.int .u8 2, .int .i64 25, .bool false])).run Try.prog W = .ok (.bool true) W := fun W => by rw [eqAdv, beqD_self]
      have hNm : ∀ W, (binOp .eql 44 (.agg #[.int .u8 2, .int .i64 0, .bool true]) (.agg #[.int .u8 2, .int .i64 0, .bool true])).run Try.prog W = .ok (.bool true) W := fun W => by rw [eqAdv, beqD_self]
      have qAj := Aj.out.cell; have fAj := Aj.out.free; have lAj := Aj.out.lt; have qAk := Ak.out.cell; have fAk := Ak.out.free; have lAk := Ak.out.lt; have qAl := Al.out.cell; have fAl := Al.out.free; have lAl := Al.out.lt; have qAm := Am.out.cell; have fAm := Am.out.free; have lAm := Am.out.lt
      go_wp2_with fail
      refine (equalBools_any _ _ [true, true, false] [true, true, false] _ (NV.out.ext ((Ext.refl _).alloc _)) (rd_of_blk (Blk.new w19 #[.bool true, .bool true, .bool false] 4) (by decide))).mono ?_
      rintro e w20 ⟨rfl, hx⟩
      have hx := Ext.trans (show Ext w19 _ from by (repeat (first | (with_reducible exact Ext.refl _) | (with_reducible assumption) | (with_reducible refine Ext.alloc ?_ _) | ((with_reducible refine Ext.setp ?_ ?_); focus (dsimp only; omega)) | (with_reducible refine Ext.drew ?_) | (with_reducible refine Ext.drewN ?_ _) | (with_reducible refine Ext.trans ?_ (by assumption))))) hx
      clear qAj fAj lAj qAk fAk lAk qAl fAl lAl qAm fAm lAm
      have H := Lib.hid (H.out.ext hx); have Aj := Lib.hid (Aj.out.ext hx); have Ak := Lib.hid (Ak.out.ext hx); have Al := Lib.hid (Al.out.ext hx); have Am := Lib.hid (Am.out.ext hx); have NV := Lib.hid (NV.out.ext hx); have OV := Lib.hid (OV.out.ext hx); have X := Lib.hid (X.out.trans hx)
      clear hx
      go_wp2_with fail
      refine (equalBools_any _ _ [true, false] [true, false] _ (OV.out.ext ((Ext.refl _).alloc _)) (rd_of_blk (Blk.new w20 #[.bool true, .bool false] 4) (by decide))).mono ?_
      rintro e w21 ⟨rfl, hx⟩
      have hx := Ext.trans (show Ext w20 _ from by (repeat (first | (with_reducible exact Ext.refl _) | (with_reducible assumption) | (with_reducible refine Ext.alloc ?_ _) | ((with_reducible refine Ext.setp ?_ ?_); focus (dsimp only; omega)) | (with_reducible refine Ext.drew ?_) | (with_reducible refine Ext.drewN ?_ _) | (with_reducible refine Ext.trans ?_ (by assumption))))) hx
      have H := Lib.hid (H.out.ext hx); have Aj := Lib.hid (Aj.out.ext hx); have Ak := Lib.hid (Ak.out.ext hx); have Al := Lib.hid (Al.out.ext hx); have Am := Lib.hid (Am.out.ext hx); have NV := Lib.hid (NV.out.ext hx); have OV := Lib.hid (OV.out.ext hx); have X := Lib.hid (X.out.trans hx)
      clear hx
      go_wp2_with fail
      go_ret
      exact ⟨rfl, X.out⟩

end Go.Proofs.Ytcmemdmfnflfiaa
