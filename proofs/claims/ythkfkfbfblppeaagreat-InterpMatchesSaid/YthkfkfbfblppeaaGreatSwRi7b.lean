/- Part of the proof of imatL_holds: what the row needs of Ri7b. Conditions: as each theorem states. -/
import Derived.Test.YthkfkfbfblppeaaGreatSwRi7
namespace Go.Proofs.YthkfkfbfblppeaaGreat
set_option linter.unusedSimpArgs false
set_option linter.unusedVariables false
open Go.RowKit
theorem gsize_bd {g : List (List Int)} {k : Nat} (hk : k ≤ g.length) (h4 : g.length ≤ 4) (h : ∀ j, j < k → axE (g.getD j []) = 0) : gsize (g.take k) ≤ 1048576 := by
  have hs : Shrt (g.take k) := ⟨by rw [List.length_take]; omega, fun j hj => by
    have hj' : j < k := by rw [List.length_take] at hj; omega
    have : (g.take k).getD j [] = g.getD j [] := by simp [List.getD_eq_getElem?_getD, List.getElem?_take, hj']
    rw [this]; exact (axE_ok (h j hj')).2.1⟩
  have := shrt_lt hs (k := (g.take k).length) (Nat.le_refl _)
  rwa [List.take_length] at this
set_option maxHeartbeats 8000000 in
theorem refCheck7_any (v : Value) (g : List (List Int)) (w : World) (h : RdG w v g) :
    Calls Tryz.prog 23 #[v] w fun e w' => e = .returned (.int .i64 (gridE g)) ∧ Ext w w' := by
  have HG := Lib.hid h
  obtain ⟨a, cap, rfl, hgl⟩ := h.shape
  clear h
  by_cases h0 : g.length = 0
  · have e : gridE g = 3 := if_pos h0
    have q1 : ((g.length : Int) == 0) = true := by simp [h0]
    have E := Lib.hid e
    clear h0 e
    go_enter Tryz.func23, Tryz.ntmps23
    go_wp2
    go_ret
    exact ⟨by rw [E.out]; rfl, by (repeat (first | (with_reducible exact Ext.refl _) | (with_reducible assumption) | (with_reducible refine Ext.alloc ?_ _) | ((with_reducible refine Ext.setp ?_ ?_); focus (dsimp only; omega)) | (with_reducible refine Ext.drew ?_) | (with_reducible refine Ext.drewN ?_ _) | (with_reducible refine Ext.trans ?_ (by assumption))))⟩
  by_cases h1 : 4 < g.length
  · have e : gridE g = 4 := by unfold gridE; rw [if_neg h0, if_pos h1]
    have q1 : ((g.length : Int) == 0) = false := beq_eq_false_iff_ne.2 (by omega)
    have q2 : (4 : Int) < (g.length : Int) := by omega
    have E := Lib.hid e
    clear h0 h1 e
    go_enter Tryz.func23, Tryz.ntmps23
    go_wp2
    go_ret
    exact ⟨by rw [E.out]; rfl, by (repeat (first | (with_reducible exact Ext.refl _) | (with_reducible assumption) | (with_reducible refine Ext.alloc ?_ _) | ((with_reducible refine Ext.setp ?_ ?_); focus (dsimp only; omega)) | (with_reducible refine Ext.drew ?_) | (with_reducible refine Ext.drewN ?_ _) | (with_reducible refine Ext.trans ?_ (by assumption))))⟩
  have hge : gridE g = if firstE g = 0 then (if 256 < gsize g then 10 else 0) else firstE g := by unfold gridE; rw [if_neg h0, if_neg h1]
  have q1 : ((g.length : Int) == 0) = false := beq_eq_false_iff_ne.2 (by omega)
  have q2 : ¬ (4 : Int) < (g.length : Int) := by omega
  have GE := Lib.hid hge; have L4 := Lib.hid h1
  have hg4 : g.length ≤ 4 := by omega
  clear hge h0 h1
  go_enter Tryz.func23, Tryz.ntmps23
  go_wp2
  go_loopw [3, 4] (fun n i wr => ∃ k : Nat, k ≤ g.length ∧ n = .int .i64 (gsize (g.take k)) ∧ i = .int .i64 k ∧ (∀ j, j < k → axE (g.getD j []) = 0) ∧ Ext w wr) (fun _ i _ => g.length - (intOf i).toNat)
  case atStart => exact ⟨0, Nat.zero_le _, rfl, rfl, (fun j hj => by omega), Ext.refl w⟩
  case round =>
    obtain ⟨wk, hwk⟩ : ∃ W, W = wr := ⟨_, rfl⟩
    subst hwk
    obtain ⟨k, hk, rfl, rfl, hok, hx⟩ := hrel
    have X := Lib.hid hx; have OK := Lib.hid hok
    clear q1 q2 hok
    by_cases hlt : k < g.length
    · obtain ⟨b, off, ai, ci, rfl, hrow⟩ := (HG.out.ext hx).at hlt
      obtain ⟨r1, r2, r3⟩ := hrow
      have hat := firstE_at hlt OK.out
      have hm : (gsize (g.take k) : Int) * ((g.getD k []).length : Int) = (gsize (g.take (k + 1)) : Nat) := by rw [gsize_take hlt]; exact (Int.natCast_mul _ _).symm
      have hgb := gsize_bd (Nat.le_of_lt hlt) hg4 OK.out
      have hgb2 := fun h => gsize_bd (show k + 1 ≤ g.length by omega) hg4 h
      have HAT := Lib.hid hat
      have HR := Lib.hid r3
      obtain ⟨c, hc⟩ : ∃ c, c = g.getD k [] := ⟨_, rfl⟩
      obtain ⟨A, hA⟩ : ∃ A, A = gsize (g.take k) := ⟨_, rfl⟩
      obtain ⟨B, hB⟩ : ∃ B, B = gsize (g.take (k + 1)) := ⟨_, rfl⟩
      rw [← hc] at HAT HR r2 hm
      rw [← hA] at hm hgb ⊢
      rw [← hB] at hm hgb2
      have HC := Lib.hid hc; have HM := Lib.hid hm; have HGB := Lib.hid hgb2; have HB := Lib.hid hB
      clear hat r3 hx hc hm hgb2 hA hB
      have q1 : (0 : Int) ≤ (k : Int) := by omega
      have q2 : (k : Int) < (g.length : Int) := by omega
      by_cases c0 : c.length = 0
      · have e : axE c = 3 := if_pos c0
        have q3 : ((c.length : Int) == 0) = true := by simp [c0]
        have E := Lib.hid e
        clear c0 e
        go_wp2
        go_ret
        exact ⟨by rw [GE.out, if_neg (by rw [HAT.out (by rw [E.out]; decide), E.out]; decide), HAT.out (by rw [E.out]; decide), E.out]; rfl, X.out⟩
      by_cases c1 : 32 < c.length
      · have e : axE c = 4 := by unfold axE; rw [if_neg c0, if_pos c1]
        have q3 : ((c.length : Int) == 0) = false := beq_eq_false_iff_ne.2 (by omega)
        have q4 : (32 : Int) < (c.length : Int) := by omega
        have E := Lib.hid e
        clear c0 c1 e
        go_wp2
        go_ret
        exact ⟨by rw [GE.out, if_neg (by rw [HAT.out (by rw [E.out]; decide), E.out]; decide), HAT.out (by rw [E.out]; decide), E.out]; rfl, X.out⟩
      have q3 : ((c.length : Int) == 0) = false := beq_eq_false_iff_ne.2 (by omega)
      have q4 : ¬ (32 : Int) < (c.length : Int) := by omega
      have C0 := Lib.hid c0; have C1 := Lib.hid c1
      have hcl : c.length ≤ 32 := by omega
      clear c0 c1
      go_wp2
      have R1 : Hid (b < wk.heap.size ∧ wk.cell? ⟨b, off + k, none⟩ = some (.slice ai c.length ci)) := Lib.hid ⟨r1, r2⟩
      go_loopw [5] (fun i wq => ∃ m : Nat, m ≤ c.length ∧ i = .int .i64 m ∧ (∀ j, j < m → okC c j) ∧ Ext wk wq) (fun i _ => c.length - (intOf i).toNat)
      case atStart => exact ⟨0, Nat.zero_le _, rfl, (fun j hj => by omega), Ext.refl wk⟩
      case round =>
        obtain ⟨m, hm, rfl, hok, hx⟩ := hrel
        have XQ := Lib.hid hx; have OKM := Lib.hid hok
        have rr2 := (XQ.out.cell (p := ⟨b, off + k, none⟩) R1.out.1).trans R1.out.2
        have rr1 := Nat.lt_of_lt_of_le R1.out.1 XQ.out.size
        clear q3 q4 hok r1 r2
        by_cases hlm : m < c.length
        · obtain ⟨b1, o1, rfl, hat⟩ := rdI_at (HR.out.ext hx) hlm
          obtain ⟨s1, s2⟩ := hat
          have q3 : (0 : Int) ≤ (m : Int) := by omega
          have q4 : (m : Int) < (c.length : Int) := by omega
          have hbad : ¬ okC c m → gridE g = 1 := fun h => by
            have e := axE_1 C0.out C1.out hlm h
            rw [GE.out, if_neg (by rw [HAT.out (by rw [e]; decide), e]; decide), HAT.out (by rw [e]; decide), e]
          obtain ⟨z, hz⟩ : ∃ z, z = c.getD m 0 := ⟨_, rfl⟩
          rw [← hz] at s2
          by_cases z1 : z < -1073741824
          · have E := Lib.hid (hbad fun h => by have := h.1; rw [← hz] at this; omega)
            clear hbad hz hx
            go_wp2
            go_ret
            exact ⟨by rw [E.out]; rfl, by have := X.out.trans XQ.out; (repeat (first | (with_reducible exact Ext.refl _) | (with_reducible assumption) | (with_reducible refine Ext.alloc ?_ _) | ((with_reducible refine Ext.setp ?_ ?_); focus (dsimp only; omega)) | (with_reducible refine Ext.drew ?_) | (with_reducible refine Ext.drewN ?_ _) | (with_reducible refine Ext.trans ?_ (by assumption))))⟩
          by_cases z2 : 1073741824 < z
          · have E := Lib.hid (hbad fun h => by have := h.2.1; rw [← hz] at this; omega)
            clear hbad hz hx
            go_wp2
            go_ret
            exact ⟨by rw [E.out]; rfl, by have := X.out.trans XQ.out; (repeat (first | (with_reducible exact Ext.refl _) | (with_reducible assumption) | (with_reducible refine Ext.alloc ?_ _) | ((with_reducible refine Ext.setp ?_ ?_); focus (dsimp only; omega)) | (with_reducible refine Ext.drew ?_) | (with_reducible refine Ext.drewN ?_ _) | (with_reducible refine Ext.trans ?_ (by assumption))))⟩
          cases m with
          | zero =>
            have hk2 : ∀ j, j < 1 → okC c j := fun j hj => by
              obtain rfl : j = 0 := by omega
              exact ⟨by omega, by omega, fun h => by omega⟩
            have OK2 := Lib.hid hk2
            clear hbad hz hx hk2
            simp only [Nat.add_zero] at s2
            go_wp2
            go_roundw
            case rel => exact ⟨1, by omega, by go_num, OK2.out, XQ.out⟩
            case measure => simp [intOf]; omega
          | succ m =>
            obtain ⟨b2, o2, e2, t1, t2⟩ := rdI_at (HR.out.ext hx) (show m < c.length by omega)
            injection e2 with e2
            injection e2 with e2 e3
            subst e2; subst e3
            obtain ⟨y, hy⟩ : ∃ y, y = c.getD m 0 := ⟨_, rfl⟩
            rw [← hy] at t2
            have q5 : (0 : Int) < ((m + 1 : Nat) : Int) := by omega
            have q6 : (0 : Int) ≤ (m : Int) := by omega
            have q7 : (m : Int) < (c.length : Int) := by omega
            have q8 : (m : Int) ≤ 32 := by omega
            have q9 : wrap64 (m : Int) = (m : Int) := by unfold wrap64; omega
            by_cases hle : z ≤ y
            · have E := Lib.hid (hbad fun h => by have := h.2.2 (Nat.succ_pos m); rw [← hz, Nat.add_sub_cancel, ← hy] at this; exact absurd hle (Int.not_le.2 this))
              clear hbad hz hx hy
              go_wp2
              go_ret
              exact ⟨by rw [E.out]; rfl, by have := X.out.trans XQ.out; (repeat (first | (with_reducible exact Ext.refl _) | (with_reducible assumption) | (with_reducible refine Ext.alloc ?_ _) | ((with_reducible refine Ext.setp ?_ ?_); focus (dsimp only; omega)) | (with_reducible refine Ext.drew ?_) | (with_reducible refine Ext.drewN ?_ _) | (with_reducible refine Ext.trans ?_ (by assumption))))⟩
            · have hk2 : ∀ j, j < m + 1 + 1 → okC c j := fun j hj => by
                by_cases e : j = m + 1
                · subst e
                  exact ⟨by rw [← hz]; exact Int.not_lt.1 z1, by rw [← hz]; exact Int.not_lt.1 z2, fun _ => by rw [Nat.add_sub_cancel, ← hy, ← hz]; exact Int.not_le.1 hle⟩
                · exact OKM.out j (Nat.lt_of_le_of_ne (Nat.le_of_lt_succ hj) e)
              have OK2 := Lib.hid hk2
              clear hbad hz hx hk2 hy
              go_wp2
              go_roundw
              case rel => exact ⟨m + 1 + 1, by omega, by go_num, OK2.out, XQ.out⟩
              case measure => simp [intOf]; omega
        · obtain rfl : m = c.length := by omega
          have q3 : ¬ (c.length : Int) < (c.length : Int) := by omega
          have hk2 : ∀ j, j < k + 1 → axE (g.getD j []) = 0 := fun j hj => by
            by_cases e : j = k
            · subst e; rw [← HC.out]; exact axE_0 C0.out C1.out OKM.out
            · exact OK.out j (by omega)
          have OK2 := Lib.hid hk2
          have hB := HGB.out hk2
          have hw : IntKind.i64.wrap ((A : Int) * (c.length : Int)) = B := by rw [HM.out]; exact wrapL (by omega) (by omega)
          clear hx hk2
          go_wp2
          go_roundw
          case rel => exact ⟨k + 1, by omega, by rw [HB.out], by go_num, OK2.out, X.out.trans XQ.out⟩
          case measure => simp [intOf]; omega
    · obtain rfl : k = g.length := by omega
      have q1 : ¬ (g.length : Int) < (g.length : Int) := by omega
      have e0 := firstE_0 OK.out
      have hge := GE.out
      rw [if_pos e0] at hge
      rw [List.take_length]
      have hgb := gsize_bd (Nat.le_refl g.length) hg4 OK.out
      rw [List.take_length] at hgb
      obtain ⟨A, hA⟩ : ∃ A, A = gsize g := ⟨_, rfl⟩
      rw [← hA] at hge hgb ⊢
      by_cases h256 : 256 < A
      · rw [if_pos h256] at hge
        have E := Lib.hid hge
        have q3 : (256 : Int) < (A : Int) := by omega
        clear hge hx e0 hA h256
        go_wp2
        go_ret
        exact ⟨by rw [E.out]; rfl, X.out⟩
      · rw [if_neg h256] at hge
        have E := Lib.hid hge
        have q3 : ¬ (256 : Int) < (A : Int) := by omega
        clear hge hx e0 hA h256
        go_wp2
        go_ret
        exact ⟨by rw [E.out]; rfl, X.out⟩
end Go.Proofs.YthkfkfbfblppeaaGreat
