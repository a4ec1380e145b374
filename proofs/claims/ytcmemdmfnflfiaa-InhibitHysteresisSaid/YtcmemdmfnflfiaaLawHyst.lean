/- Walk of the law InhibitHysteresis: it returns true (written by mkhyst2.py). Conditions: none. -/
import Derived.Test.YtcmemdmfnflfiaaAwake
import Derived.Test.YtcmemdmfnflfiaaInhF
import Derived.Test.YtcmemdmfnflfiaaSpecT
import Derived.BigRegion
import Derived.Test.YtcmemdmfnflfiaaEach
import Derived.Test.YtcmemdmfnflfiaaEq
namespace Go.Proofs.Ytcmemdmfnflfiaa
set_option linter.unusedSimpArgs false
set_option linter.unusedVariables false
open Go.RowKit

theorem flg_idem (e l : Int) (b : Bool) (z : Int) : flg e l (flg e l b z) z = flg e l b z := by
  unfold flg; split
  · rfl
  · split <;> rfl
/-- The facts of one gap. -/
theorem gap_at {W : World} {Gn Wn In : Nat} {g0 g1 g2 g3 g4 g5 : Int} {b1 b2 b3 d1 d2 d3 : Bool} {zz : Int} (hg : Blk W Gn #[.int .i64 g0, .int .i64 g1, .int .i64 g2, .int .i64 g3, .int .i64 g4, .int .i64 g5] 24)
    (hw : Blk W Wn #[.bool b1, .bool b2, .bool b3] 4) (hi : Blk W In #[.bool d1, .bool d2, .bool d3] 4) (e1 : flg g0 g1 b1 zz = d1) (e2 : flg g2 g3 b2 zz = d2) (e3 : flg g4 g5 b3 zz = d3) {k : Nat} (hk : k < 3) :
    ∃ e l b d, W.cell? ⟨Gn, k * 2, none⟩ = some (.int .i64 e) ∧ W.cell? ⟨Gn, k * 2 + 1, none⟩ = some (.int .i64 l) ∧ W.cell? ⟨Wn, k, none⟩ = some (.bool b) ∧ W.cell? ⟨In, k, none⟩ = some (.bool d) ∧ flg e l b zz = d := by
  match k, hk with
  | 0, _ => exact ⟨g0, g1, b1, d1, hg.cell 0, hg.cell 1, hw.cell 0, hi.cell 0, e1⟩
  | 1, _ => exact ⟨g2, g3, b2, d2, hg.cell 2, hg.cell 3, hw.cell 1, hi.cell 1, e2⟩
  | 2, _ => exact ⟨g4, g5, b3, d3, hg.cell 4, hg.cell 5, hw.cell 2, hi.cell 2, e3⟩

/-- What the operations of 'was, is := ..' leave. -/
def hystJ (pA pB : Nat) (bd bs ba d1 d2 d3 : Bool) (j : Nat) (v : Value) (W : World) : Prop :=
  match j with
  | 0 => v = .pointer (some ⟨pA, 0, none⟩)
  | 1 => v = .bool bd
  | 2 => v = .pointer (some ⟨pA, 1, none⟩)
  | 3 => v = .bool bs
  | 4 => v = .pointer (some ⟨pA, 2, none⟩)
  | 5 => v = .bool ba
  | 6 => ∃ b, v = .slice (some ⟨b, 0, none⟩) 3 3 ∧ Blk W b #[.bool bd, .bool bs, .bool ba] 4
  | 7 => v = .pointer (some ⟨pB, 0, none⟩)
  | 8 => v = .bool d1
  | 9 => v = .pointer (some ⟨pB, 1, none⟩)
  | 10 => v = .bool d2
  | 11 => v = .pointer (some ⟨pB, 2, none⟩)
  | 12 => v = .bool d3
  | 13 => ∃ b, v = .slice (some ⟨b, 0, none⟩) 3 3 ∧ Blk W b #[.bool d1, .bool d2, .bool d3] 4
  | 14 => ∃ b, v = .slice (some ⟨b, 0, none⟩) 3 3 ∧ Blk W b #[.bool bd, .bool bs, .bool ba] 4
  | 15 => ∃ b, v = .slice (some ⟨b, 0, none⟩) 3 3 ∧ Blk W b #[.bool d1, .bool d2, .bool d3] 4
  | _ => True
theorem hystJ_ext {pA pB : Nat} {bd bs ba d1 d2 d3 : Bool} {j : Nat} {v : Value} {W W' : World} (h : hystJ pA pB bd bs ba d1 d2 d3 j v W) (x : Ext W W') : hystJ pA pB bd bs ba d1 d2 d3 j v W' := by
  match j, h with
  | 0, h => exact h
  | 1, h => exact h
  | 2, h => exact h
  | 3, h => exact h
  | 4, h => exact h
  | 5, h => exact h
  | 6, ⟨b, h1, h2⟩ => exact ⟨b, h1, h2.ext x⟩
  | 7, h => exact h
  | 8, h => exact h
  | 9, h => exact h
  | 10, h => exact h
  | 11, h => exact h
  | 12, h => exact h
  | 13, ⟨b, h1, h2⟩ => exact ⟨b, h1, h2.ext x⟩
  | 14, ⟨b, h1, h2⟩ => exact ⟨b, h1, h2.ext x⟩
  | 15, ⟨b, h1, h2⟩ => exact ⟨b, h1, h2.ext x⟩
  | _ + 16, _ => trivial

set_option maxRecDepth 100000 in
set_option maxHeartbeats 8000000 in
theorem hyst_any (de dl se sl ae al r : Int) (bd bs ba : Bool) (z0 : Int) (w : World) :
    Calls Try.prog 4 #[.agg #[.int .i64 de, .int .i64 dl, .int .i64 se, .int .i64 sl, .int .i64 ae, .int .i64 al, .int .i64 r], .agg #[.bool bd, .bool bs, .bool ba], .int .i64 z0] w fun en w' => en = .returned (.bool true) ∧ Ext w w' := by
  have b7 := umod_bd z0 (k := 3000) (by omega) (by omega)
  have htm := fun W => tame_any de dl se sl ae al r W
  have hck := tame_chk de dl se sl ae al r
  have hz : wrap64 (wrap64 ((IntKind.u64.wrap z0).tmod 3000) - 200) = umod z0 3000 - 200 := by
    rw [show wrap64 ((IntKind.u64.wrap z0).tmod 3000) = umod z0 3000 from rfl]; unfold wrap64; omega
  generalize umod de 2000 + umod dl 500 = g1 at htm hck
  generalize umod se 2000 + umod sl 500 = g3 at htm hck
  generalize umod ae 2000 + umod al 500 = g5 at htm hck
  generalize umod de 2000 = g0 at htm hck
  generalize umod se 2000 = g2 at htm hck
  generalize umod ae 2000 = g4 at htm hck
  generalize umod r 101 = g6 at htm hck
  obtain ⟨zz, hzz⟩ : ∃ x, x = umod z0 3000 - 200 := ⟨_, rfl⟩
  rw [← hzz] at hz
  have hu := upd_0 (bd := bd) (bs := bs) (ba := ba) (z := zz) hck (by omega) (by omega)
  have hv := upd_0 (bd := flg g0 g1 bd zz) (bs := flg g2 g3 bs zz) (ba := flg g4 g5 ba zz) (z := zz) hck (by omega) (by omega)
  rw [flg_idem, flg_idem, flg_idem] at hv
  have hw1 := fun W => upd_any g0 g1 g2 g3 g4 g5 g6 bd bs ba zz W
  have hw2 := fun W => upd_any g0 g1 g2 g3 g4 g5 g6 (flg g0 g1 bd zz) (flg g2 g3 bs zz) (flg g4 g5 ba zz) zz W
  rw [hu] at hw1
  rw [hv] at hw2
  dsimp only at hw1 hw2
  obtain ⟨d1, hd1⟩ : ∃ d, d = flg g0 g1 bd zz := ⟨_, rfl⟩
  obtain ⟨d2, hd2⟩ : ∃ d, d = flg g2 g3 bs zz := ⟨_, rfl⟩
  obtain ⟨d3, hd3⟩ : ∃ d, d = flg g4 g5 ba zz := ⟨_, rfl⟩
  rw [← hd1, ← hd2, ← hd3] at hw1 hw2
  have HZ := Lib.hid hz; have HT := Lib.hid htm; have HW1 := Lib.hid hw1; have HW2 := Lib.hid hw2; have HD1 := Lib.hid hd1.symm; have HD2 := Lib.hid hd2.symm; have HD3 := Lib.hid hd3.symm
  clear hz htm hw1 hw2 hd1 hd2 hd3 hu hv hck hzz b7
  have bb0 := ((Blk.new w #[.int .i64 de, .int .i64 dl, .int .i64 se, .int .i64 sl, .int .i64 ae, .int .i64 al, .int .i64 r] 26).alloc (.cells #[.bool bd, .bool bs, .bool ba] 31))
  have bb1 := (Blk.new (w.alloc (.cells #[.int .i64 de, .int .i64 dl, .int .i64 se, .int .i64 sl, .int .i64 ae, .int .i64 al, .int .i64 r] 26)) #[.bool bd, .bool bs, .bool ba] 31)
  rw [World.size_alloc] at bb1
  have x0 : Ext w ((w.alloc (.cells #[.int .i64 de, .int .i64 dl, .int .i64 se, .int .i64 sl, .int .i64 ae, .int .i64 al, .int .i64 r] 26)).alloc (.cells #[.bool bd, .bool bs, .bool ba] 31)) := (((Ext.refl w).alloc _).alloc _)
  have A0 := Lib.hid bb0; have A1 := Lib.hid bb1; have X := Lib.hid x0
  clear x0 bb0 bb1
  go_enter Try.func4, Try.ntmps4
  go_wp2_with fail
  refine (awake30_any _).mono ?_
  rintro e w1 ⟨rfl, hx⟩
  have A0 := Lib.hid (A0.out.ext hx); have A1 := Lib.hid (A1.out.ext hx); have X := Lib.hid (X.out.trans hx)
  clear hx
  have qA0 := A0.out.cell; have fA0 := A0.out.free; have lA0 := A0.out.lt; have qA1 := A1.out.cell; have fA1 := A1.out.free; have lA1 := A1.out.lt
  go_wp2_with fail
  refine (HT.out _).mono ?_
  rintro e w2 ⟨rfl, hx⟩
  clear qA0 fA0 lA0 qA1 fA1 lA1
  have A0 := Lib.hid (A0.out.ext hx); have A1 := Lib.hid (A1.out.ext hx); have X := Lib.hid (X.out.trans hx)
  clear hx
  have qA0 := A0.out.cell; have fA0 := A0.out.free; have lA0 := A0.out.lt; have qA1 := A1.out.cell; have fA1 := A1.out.free; have lA1 := A1.out.lt
  go_wp2_with fail
  rw [HZ.out]
  clear qA0 fA0 lA0 qA1 fA1 lA1
  have bz := Blk.new w2 #[.int .i64 g0, .int .i64 g1, .int .i64 g2, .int .i64 g3, .int .i64 g4, .int .i64 g5, .int .i64 g6] 26
  have hx : Ext w2 (w2.alloc (.cells #[.int .i64 g0, .int .i64 g1, .int .i64 g2, .int .i64 g3, .int .i64 g4, .int .i64 g5, .int .i64 g6] 26)) := (Ext.refl _).alloc _
  obtain ⟨Tn, hT⟩ : ∃ n, n = w2.heap.size := ⟨_, rfl⟩
  obtain ⟨w3, hw3⟩ : ∃ W, W = w2.alloc (.cells #[.int .i64 g0, .int .i64 g1, .int .i64 g2, .int .i64 g3, .int .i64 g4, .int .i64 g5, .int .i64 g6] 26) := ⟨_, rfl⟩
  rw [← hw3] at bz hx ⊢; rw [← hT] at bz ⊢; clear hw3 hT
  have A0 := Lib.hid (A0.out.ext hx); have A1 := Lib.hid (A1.out.ext hx); have X := Lib.hid (X.out.trans hx)
  have T := Lib.hid bz; clear hx bz
  refine (HW1.out _).mono ?_
  rintro e w4 ⟨rfl, hx⟩
  have A0 := Lib.hid (A0.out.ext hx); have A1 := Lib.hid (A1.out.ext hx); have T := Lib.hid (T.out.ext hx); have X := Lib.hid (X.out.trans hx)
  clear hx
  have qA0 := A0.out.cell; have fA0 := A0.out.free; have lA0 := A0.out.lt; have qA1 := A1.out.cell; have fA1 := A1.out.free; have lA1 := A1.out.lt; have qT := T.out.cell; have fT := T.out.free; have lT := T.out.lt
  go_wp2_with fail
  clear qA0 fA0 lA0 qA1 fA1 lA1 qT fT lT
  have bz := Blk.new w4 #[.bool d1, .bool d2, .bool d3] 31
  have hx : Ext w4 (w4.alloc (.cells #[.bool d1, .bool d2, .bool d3] 31)) := (Ext.refl _).alloc _
  obtain ⟨B1n, hB1⟩ : ∃ n, n = w4.heap.size := ⟨_, rfl⟩
  obtain ⟨w5, hw5⟩ : ∃ W, W = w4.alloc (.cells #[.bool d1, .bool d2, .bool d3] 31) := ⟨_, rfl⟩
  rw [← hw5] at bz hx ⊢; rw [← hB1] at bz ⊢; clear hw5 hB1
  have A0 := Lib.hid (A0.out.ext hx); have A1 := Lib.hid (A1.out.ext hx); have T := Lib.hid (T.out.ext hx); have X := Lib.hid (X.out.trans hx)
  have B1 := Lib.hid bz; clear hx bz
  refine (HW2.out _).mono ?_
  rintro e w6 ⟨rfl, hx⟩
  have A0 := Lib.hid (A0.out.ext hx); have A1 := Lib.hid (A1.out.ext hx); have T := Lib.hid (T.out.ext hx); have B1 := Lib.hid (B1.out.ext hx); have X := Lib.hid (X.out.trans hx)
  clear hx
  have qA0 := A0.out.cell; have fA0 := A0.out.free; have lA0 := A0.out.lt; have qA1 := A1.out.cell; have fA1 := A1.out.free; have lA1 := A1.out.lt; have qT := T.out.cell; have fT := T.out.free; have lT := T.out.lt; have qB1 := B1.out.cell; have fB1 := B1.out.free; have lB1 := B1.out.lt
  have hN : ∀ W, (binOp .neq 31 (.agg #[.bool d1, .bool d2, .bool d3]) (.agg #[.bool d1, .bool d2, .bool d3])).run Try.prog W = .ok (.bool false) W := fun W => by rw [neqBlk, beqD_self]; rfl
  have bz := (Blk.new w6 #[.bool d1, .bool d2, .bool d3] 31).cell
  go_wp2_with fail
  clear hN bz
  clear qA0 fA0 lA0 qA1 fA1 lA1 qT fT lT qB1 fB1 lB1
  have hx : Ext w6 ((w6.alloc (.cells #[.bool d1, .bool d2, .bool d3] 31)).alloc (.cells #[.int .i64 g0, .int .i64 g1, .int .i64 g2, .int .i64 g3, .int .i64 g4, .int .i64 g5] 24)) := ((Ext.refl _).alloc _).alloc _
  have bz := Blk.new (w6.alloc (.cells #[.bool d1, .bool d2, .bool d3] 31)) #[.int .i64 g0, .int .i64 g1, .int .i64 g2, .int .i64 g3, .int .i64 g4, .int .i64 g5] 24
  rw [World.size_alloc] at bz
  obtain ⟨Gn, hGn⟩ : ∃ n, n = w6.heap.size + 1 := ⟨_, rfl⟩
  obtain ⟨w7, hw7⟩ : ∃ W, W = (w6.alloc (.cells #[.bool d1, .bool d2, .bool d3] 31)).alloc (.cells #[.int .i64 g0, .int .i64 g1, .int .i64 g2, .int .i64 g3, .int .i64 g4, .int .i64 g5] 24) := ⟨_, rfl⟩
  rw [← hw7] at bz hx ⊢; rw [← hGn] at bz ⊢; clear hw7 hGn
  have A0 := Lib.hid (A0.out.ext hx); have A1 := Lib.hid (A1.out.ext hx); have T := Lib.hid (T.out.ext hx); have B1 := Lib.hid (B1.out.ext hx); have X := Lib.hid (X.out.trans hx)
  have G := Lib.hid bz; clear hx bz
  obtain ⟨pA, hpA⟩ : ∃ n, n = w.heap.size + 1 := ⟨_, rfl⟩
  rw [← hpA] at A1 ⊢
  clear hpA
  refine wp_region_each (hystJ pA B1n bd bs ba d1 d2 d3) (by kernel_rfl) (by kernel_rfl) (by kernel_rfl) (fun _ _ _ _ => hystJ_ext) ?_ ?_
  · refine ⟨?_, ?_, ?_, ?_, ?_, ?_, ?_, ?_, ?_, ?_, ?_, ?_, ?_, ?_, ?_, ?_, trivial⟩
    · intro a W hW hB hD K hK
      have b4 := hB 4 rfl
      simp only [Array.getD_eq_getD_getElem?, List.getElem?_toArray, List.getElem?_cons_succ, List.getElem?_cons_zero, Option.getD_some] at b4
      go_simp
      exact hK _ _ (Ext.refl _) rfl
    · intro a W hW hB hD K hK
      obtain ⟨v58, e58⟩ : ∃ x, a.tmps.getD 58 undef = x := ⟨_, rfl⟩
      have h58 := hD 0 _ 58 rfl rfl (by kernel_rfl)
      rw [e58] at h58
      simp only [Array.getD_eq_getD_getElem?] at e58
      obtain rfl := h58
      have q9 := (A1.out.ext hW).cell
      go_simp
      exact hK _ _ (Ext.refl _) rfl
    · intro a W hW hB hD K hK
      have b4 := hB 4 rfl
      simp only [Array.getD_eq_getD_getElem?, List.getElem?_toArray, List.getElem?_cons_succ, List.getElem?_cons_zero, Option.getD_some] at b4
      go_simp
      exact hK _ _ (Ext.refl _) rfl
    · intro a W hW hB hD K hK
      obtain ⟨v60, e60⟩ : ∃ x, a.tmps.getD 60 undef = x := ⟨_, rfl⟩
      have h60 := hD 2 _ 60 rfl rfl (by kernel_rfl)
      rw [e60] at h60
      simp only [Array.getD_eq_getD_getElem?] at e60
      obtain rfl := h60
      have q9 := (A1.out.ext hW).cell
      go_simp
      exact hK _ _ (Ext.refl _) rfl
    · intro a W hW hB hD K hK
      have b4 := hB 4 rfl
      simp only [Array.getD_eq_getD_getElem?, List.getElem?_toArray, List.getElem?_cons_succ, List.getElem?_cons_zero, Option.getD_some] at b4
      go_simp
      exact hK _ _ (Ext.refl _) rfl
    · intro a W hW hB hD K hK
      obtain ⟨v62, e62⟩ : ∃ x, a.tmps.getD 62 undef = x := ⟨_, rfl⟩
      have h62 := hD 4 _ 62 rfl rfl (by kernel_rfl)
      rw [e62] at h62
      simp only [Array.getD_eq_getD_getElem?] at e62
      obtain rfl := h62
      have q9 := (A1.out.ext hW).cell
      go_simp
      exact hK _ _ (Ext.refl _) rfl
    · intro a W hW hB hD K hK
      obtain ⟨v59, e59⟩ : ∃ x, a.tmps.getD 59 undef = x := ⟨_, rfl⟩
      have h59 := hD 1 _ 59 rfl rfl (by kernel_rfl)
      rw [e59] at h59
      simp only [Array.getD_eq_getD_getElem?] at e59
      obtain rfl := h59
      obtain ⟨v61, e61⟩ : ∃ x, a.tmps.getD 61 undef = x := ⟨_, rfl⟩
      have h61 := hD 3 _ 61 rfl rfl (by kernel_rfl)
      rw [e61] at h61
      simp only [Array.getD_eq_getD_getElem?] at e61
      obtain rfl := h61
      obtain ⟨v63, e63⟩ : ∃ x, a.tmps.getD 63 undef = x := ⟨_, rfl⟩
      have h63 := hD 5 _ 63 rfl rfl (by kernel_rfl)
      rw [e63] at h63
      simp only [Array.getD_eq_getD_getElem?] at e63
      obtain rfl := h63
      go_simp
      exact hK _ _ ((Ext.refl _).alloc _) ⟨_, rfl, Blk.new _ _ _⟩
    · intro a W hW hB hD K hK
      have b9 := hB 9 rfl
      simp only [Array.getD_eq_getD_getElem?, List.getElem?_toArray, List.getElem?_cons_succ, List.getElem?_cons_zero, Option.getD_some] at b9
      go_simp
      exact hK _ _ (Ext.refl _) rfl
    · intro a W hW hB hD K hK
      obtain ⟨v65, e65⟩ : ∃ x, a.tmps.getD 65 undef = x := ⟨_, rfl⟩
      have h65 := hD 7 _ 65 rfl rfl (by kernel_rfl)
      rw [e65] at h65
      simp only [Array.getD_eq_getD_getElem?] at e65
      obtain rfl := h65
      have q9 := (B1.out.ext hW).cell
      go_simp
      exact hK _ _ (Ext.refl _) rfl
    · intro a W hW hB hD K hK
      have b9 := hB 9 rfl
      simp only [Array.getD_eq_getD_getElem?, List.getElem?_toArray, List.getElem?_cons_succ, List.getElem?_cons_zero, Option.getD_some] at b9
      go_simp
      exact hK _ _ (Ext.refl _) rfl
    · intro a W hW hB hD K hK
      obtain ⟨v67, e67⟩ : ∃ x, a.tmps.getD 67 undef = x := ⟨_, rfl⟩
      have h67 := hD 9 _ 67 rfl rfl (by kernel_rfl)
      rw [e67] at h67
      simp only [Array.getD_eq_getD_getElem?] at e67
      obtain rfl := h67
      have q9 := (B1.out.ext hW).cell
      go_simp
      exact hK _ _ (Ext.refl _) rfl
    · intro a W hW hB hD K hK
      have b9 := hB 9 rfl
      simp only [Array.getD_eq_getD_getElem?, List.getElem?_toArray, List.getElem?_cons_succ, List.getElem?_cons_zero, Option.getD_some] at b9
      go_simp
      exact hK _ _ (Ext.refl _) rfl
    · intro a W hW hB hD K hK
      obtain ⟨v69, e69⟩ : ∃ x, a.tmps.getD 69 undef = x := ⟨_, rfl⟩
      have h69 := hD 11 _ 69 rfl rfl (by kernel_rfl)
      rw [e69] at h69
      simp only [Array.getD_eq_getD_getElem?] at e69
      obtain rfl := h69
      have q9 := (B1.out.ext hW).cell
      go_simp
      exact hK _ _ (Ext.refl _) rfl
    · intro a W hW hB hD K hK
      obtain ⟨v66, e66⟩ : ∃ x, a.tmps.getD 66 undef = x := ⟨_, rfl⟩
      have h66 := hD 8 _ 66 rfl rfl (by kernel_rfl)
      rw [e66] at h66
      simp only [Array.getD_eq_getD_getElem?] at e66
      obtain rfl := h66
      obtain ⟨v68, e68⟩ : ∃ x, a.tmps.getD 68 undef = x := ⟨_, rfl⟩
      have h68 := hD 10 _ 68 rfl rfl (by kernel_rfl)
      rw [e68] at h68
      simp only [Array.getD_eq_getD_getElem?] at e68
      obtain rfl := h68
      obtain ⟨v70, e70⟩ : ∃ x, a.tmps.getD 70 undef = x := ⟨_, rfl⟩
      have h70 := hD 12 _ 70 rfl rfl (by kernel_rfl)
      rw [e70] at h70
      simp only [Array.getD_eq_getD_getElem?] at e70
      obtain rfl := h70
      go_simp
      exact hK _ _ ((Ext.refl _).alloc _) ⟨_, rfl, Blk.new _ _ _⟩
    · intro a W hW hB hD K hK
      obtain ⟨v64, e64⟩ : ∃ x, a.tmps.getD 64 undef = x := ⟨_, rfl⟩
      have h64 := hD 6 _ 64 rfl rfl (by kernel_rfl)
      rw [e64] at h64
      simp only [Array.getD_eq_getD_getElem?] at e64
      obtain ⟨b1, rfl, k1⟩ := h64
      go_simp
      exact hK _ _ (Ext.refl _) ⟨_, rfl, k1⟩
    · intro a W hW hB hD K hK
      obtain ⟨v71, e71⟩ : ∃ x, a.tmps.getD 71 undef = x := ⟨_, rfl⟩
      have h71 := hD 13 _ 71 rfl rfl (by kernel_rfl)
      rw [e71] at h71
      simp only [Array.getD_eq_getD_getElem?] at e71
      obtain ⟨b1, rfl, k1⟩ := h71
      go_simp
      exact hK _ _ (Ext.refl _) ⟨_, rfl, k1⟩
  intro w9 hx
  simp only [Vals]
  intro v0 _ v1 _ v2 _ v3 _ v4 _ v5 _ v6 _ v7 _ v8 _ v9 _ v10 _ v11 _ v12 _ v13 _ v14 h14 v15 h15
  obtain ⟨Wn, rfl, bW⟩ := h14
  obtain ⟨In, rfl, bI⟩ := h15
  simp only [Act.put, List.setIfInBounds_toArray, List.set_cons_zero, List.set_cons_succ]
  have A0 := Lib.hid (A0.out.ext hx); have A1 := Lib.hid (A1.out.ext hx); have T := Lib.hid (T.out.ext hx); have B1 := Lib.hid (B1.out.ext hx); have G := Lib.hid (G.out.ext hx); have X := Lib.hid (X.out.trans hx)
  have BW := Lib.hid bW; have BI := Lib.hid bI; clear hx bW bI
  go_wp2_with fail
  clear A0 A1 T B1
  go_loopw [16] (fun i wr => ∃ k : Nat, k ≤ 3 ∧ i = .int .i64 k ∧ Ext w9 wr) (fun i _ => 3 - (intOf i).toNat)
  case atStart => exact ⟨0, by omega, rfl, Ext.refl _⟩
  case round =>
    obtain ⟨k, hk, rfl, hext⟩ := hrel
    have G := Lib.hid (G.out.ext hext); have BW := Lib.hid (BW.out.ext hext); have BI := Lib.hid (BI.out.ext hext)
    have XX := Lib.hid (X.out.trans hext)
    have X := Lib.hid hext
    clear hext
    by_cases hlt : k < 3
    · obtain ⟨e, l, b, d, c1, c2, c3, c4, hd⟩ := gap_at G.out BW.out BI.out HD1.out HD2.out HD3.out hlt
      have lG := G.out.lt; have lW := BW.out.lt; have lI := BI.out.lt
      have q1 : (0 : Int) ≤ (k : Int) := by omega
      have q2 : (k : Int) < 3 := by omega
      by_cases z1 : zz < e
      · obtain rfl : d = true := by rw [← hd]; exact flg_lo z1
        clear hd
        go_wp2_with fail
        go_roundw
        case rel => exact ⟨k + 1, by omega, by go_num, X.out⟩
        case measure => simp [intOf]; omega
      · by_cases z2 : l ≤ zz
        · obtain rfl : d = false := by rw [← hd]; exact flg_hi (by omega) z2
          clear hd
          go_wp2_with fail
          go_roundw
          case rel => exact ⟨k + 1, by omega, by go_num, X.out⟩
          case measure => simp [intOf]; omega
        · have z3 : e ≤ zz := by omega
          have z4 : zz < l := by omega
          obtain rfl : d = b := by rw [← hd]; exact flg_mid z3 z4
          clear hd
          go_wp2_with fail
          (refine wp_region_quietE (by kernel_rfl) (by kernel_rfl) ?_; (repeat (go_big_quiet_step ((fail)))); refine wpQuiet_nil ?_; rintro w1 ⟨⟨_, hx1⟩, rfl⟩; (try dsimp only))
          have X := Lib.hid (X.out.trans hx1)
          go_wp2_with fail
          go_roundw
          case rel => exact ⟨k + 1, by omega, by go_num, X.out⟩
          case measure => simp [intOf]; omega
    · obtain rfl : k = 3 := by omega
      go_wp2_with fail
      go_ret
      exact ⟨rfl, XX.out⟩

end Go.Proofs.Ytcmemdmfnflfiaa
