/- Walks of Check, cmp.Or, cmp.Compare and check of layer 5. Conditions: slices of limbs. -/
import Derived.Test.YtoicjiiifffciaaBigT
namespace Go.Proofs.Ytoicjiiifffciaa
set_option linter.unusedSimpArgs false
set_option linter.unusedVariables false
open Go.RowKit

/-- What is invalid about a list of limbs. -/
def chkE (l : List Int) : Int := if 512 < l.length then 4 else if l.getLast? = some 0 then 2 else 0
/-- The first error. -/
def orE (a b : Int) : Int := if a = 0 then b else a
def chk2 (l1 l2 : List Int) : Int := orE (chkE l1) (chkE l2)
/-- -1, 0, 1 -/
def sgn (a b : Int) : Int := if a < b then -1 else if b < a then 1 else 0

theorem getLast_getD (l : List Int) (h : 0 < l.length) : l.getLast? = some (l.getD (l.length - 1) 0) := by
  rw [List.getLast?_eq_getElem?, List.getD_eq_getElem?_getD, List.getElem?_eq_getElem (by omega)]; rfl

theorem rdU {w : World} {v : Value} {l : List Int} (h : RdI .u32 w v l) : ∃ a cap, v = .slice a l.length cap ∧ l.length ≤ cap ∧ cap ≤ 9223372036854775807 ∧
    ∀ i, i < l.length → ∃ b off, a = some ⟨b, off, none⟩ ∧ b < w.heap.size ∧ w.cell? ⟨b, off + i, none⟩ = some (.int .u32 (l.getD i 0)) := h.get

theorem check1_any (v : Value) (l : List Int) (w : World) (h : RdI .u32 w v l) :
    Calls Try.prog 16 #[v] w fun e w' => e = .returned (.int .i64 (chkE l)) ∧ Ext w w' := by
  obtain ⟨a, cap, rfl, hc, hm, hr⟩ := rdU h
  clear h
  by_cases h5 : 512 < l.length
  · have e : chkE l = 4 := by simp [chkE, h5]
    have H := Lib.hid e; clear e hr
    have hd : decide (512 < (l.length : Int)) = true := by simp; omega
    go_enter Try.func16, Try.ntmps16
    go_wp2
    go_ret
    exact ⟨by rw [H.out]; rfl, Ext.refl w⟩
  · have hd : decide (512 < (l.length : Int)) = false := by simp; omega
    by_cases h0 : 0 < l.length
    · obtain ⟨b, off, rfl, hb, hx⟩ := hr (l.length - 1) (by omega)
      obtain ⟨x, hx'⟩ : ∃ x, x = l.getD (l.length - 1) 0 := ⟨_, rfl⟩
      rw [← hx'] at hx
      have e : chkE l = if x = 0 then 2 else 0 := by
        unfold chkE; rw [if_neg h5, getLast_getD l h0, ← hx']; simp
      have H := Lib.hid e; clear e hr hx'
      have hd0 : decide (0 < (l.length : Int)) = true := by simp; omega
      by_cases hz : x = 0
      · subst hz
        go_enter Try.func16, Try.ntmps16
        go_wp2
        go_ret
        exact ⟨by rw [H.out]; rfl, by (repeat (first | (with_reducible exact Ext.refl _) | (with_reducible assumption) | (with_reducible refine Ext.alloc ?_ _) | ((with_reducible refine Ext.setp ?_ ?_); focus (dsimp only; omega)) | (with_reducible refine Ext.drew ?_) | (with_reducible refine Ext.drewN ?_ _) | (with_reducible refine Ext.trans ?_ (by assumption))))⟩
      · have hz' : (x == 0) = false := by simpa using hz
        go_enter Try.func16, Try.ntmps16
        go_wp2
        go_ret
        exact ⟨by rw [H.out, if_neg hz]; rfl, by (repeat (first | (with_reducible exact Ext.refl _) | (with_reducible assumption) | (with_reducible refine Ext.alloc ?_ _) | ((with_reducible refine Ext.setp ?_ ?_); focus (dsimp only; omega)) | (with_reducible refine Ext.drew ?_) | (with_reducible refine Ext.drewN ?_ _) | (with_reducible refine Ext.trans ?_ (by assumption))))⟩
    · have hl : l.length = 0 := by omega
      have e : chkE l = 0 := by rw [List.length_eq_zero_iff.1 hl]; rfl
      have H := Lib.hid e; clear e hr
      have hd0 : decide (0 < (l.length : Int)) = false := decide_eq_false (by omega)
      go_enter Try.func16, Try.ntmps16
      go_wp2
      go_ret
      exact ⟨by rw [H.out]; rfl, by (repeat (first | (with_reducible exact Ext.refl _) | (with_reducible assumption) | (with_reducible refine Ext.alloc ?_ _) | ((with_reducible refine Ext.setp ?_ ?_); focus (dsimp only; omega)) | (with_reducible refine Ext.drew ?_) | (with_reducible refine Ext.drewN ?_ _) | (with_reducible refine Ext.trans ?_ (by assumption))))⟩

theorem cmpInt_any (a b : Int) (w : World) :
    Calls Try.prog 69 #[.int .i64 a, .int .i64 b] w fun e w' => e = .returned (.int .i64 (sgn a b)) ∧ Ext w w' := by
  rcases Int.lt_trichotomy a b with h | h | h
  · have e : sgn a b = -1 := by simp [sgn, h]
    have H := Lib.hid e; clear e
    go_enter Try.func69, Try.ntmps69
    go_wp2
    go_ret
    exact ⟨by rw [H.out]; rfl, by (repeat (first | (with_reducible exact Ext.refl _) | (with_reducible assumption) | (with_reducible refine Ext.alloc ?_ _) | ((with_reducible refine Ext.setp ?_ ?_); focus (dsimp only; omega)) | (with_reducible refine Ext.drew ?_) | (with_reducible refine Ext.drewN ?_ _) | (with_reducible refine Ext.trans ?_ (by assumption))))⟩
  · have e : sgn a b = 0 := by simp [sgn, h]
    have h1 : decide (a < b) = false := decide_eq_false (by omega)
    have h2 : decide (b < a) = false := decide_eq_false (by omega)
    have H := Lib.hid e; clear e h
    go_enter Try.func69, Try.ntmps69
    go_wp2
    go_ret
    exact ⟨by rw [H.out]; rfl, by (repeat (first | (with_reducible exact Ext.refl _) | (with_reducible assumption) | (with_reducible refine Ext.alloc ?_ _) | ((with_reducible refine Ext.setp ?_ ?_); focus (dsimp only; omega)) | (with_reducible refine Ext.drew ?_) | (with_reducible refine Ext.drewN ?_ _) | (with_reducible refine Ext.trans ?_ (by assumption))))⟩
  · have e : sgn a b = 1 := by have : ¬ a < b := by omega
                               simp [sgn, h, this]
    have h1 : decide (a < b) = false := decide_eq_false (by omega)
    have H := Lib.hid e; clear e
    go_enter Try.func69, Try.ntmps69
    go_wp2
    go_ret
    exact ⟨by rw [H.out]; rfl, by (repeat (first | (with_reducible exact Ext.refl _) | (with_reducible assumption) | (with_reducible refine Ext.alloc ?_ _) | ((with_reducible refine Ext.setp ?_ ?_); focus (dsimp only; omega)) | (with_reducible refine Ext.drew ?_) | (with_reducible refine Ext.drewN ?_ _) | (with_reducible refine Ext.trans ?_ (by assumption))))⟩

theorem cmpU_any (a b : Int) (w : World) :
    Calls Try.prog 70 #[.int .u32 a, .int .u32 b] w fun e w' => e = .returned (.int .i64 (sgn a b)) ∧ Ext w w' := by
  rcases Int.lt_trichotomy a b with h | h | h
  · have e : sgn a b = -1 := by simp [sgn, h]
    have H := Lib.hid e; clear e
    go_enter Try.func70, Try.ntmps70
    go_wp2
    go_ret
    exact ⟨by rw [H.out]; rfl, by (repeat (first | (with_reducible exact Ext.refl _) | (with_reducible assumption) | (with_reducible refine Ext.alloc ?_ _) | ((with_reducible refine Ext.setp ?_ ?_); focus (dsimp only; omega)) | (with_reducible refine Ext.drew ?_) | (with_reducible refine Ext.drewN ?_ _) | (with_reducible refine Ext.trans ?_ (by assumption))))⟩
  · have e : sgn a b = 0 := by simp [sgn, h]
    have h1 : decide (a < b) = false := decide_eq_false (by omega)
    have h2 : decide (b < a) = false := decide_eq_false (by omega)
    have H := Lib.hid e; clear e h
    go_enter Try.func70, Try.ntmps70
    go_wp2
    go_ret
    exact ⟨by rw [H.out]; rfl, by (repeat (first | (with_reducible exact Ext.refl _) | (with_reducible assumption) | (with_reducible refine Ext.alloc ?_ _) | ((with_reducible refine Ext.setp ?_ ?_); focus (dsimp only; omega)) | (with_reducible refine Ext.drew ?_) | (with_reducible refine Ext.drewN ?_ _) | (with_reducible refine Ext.trans ?_ (by assumption))))⟩
  · have e : sgn a b = 1 := by have : ¬ a < b := by omega
                               simp [sgn, h, this]
    have h1 : decide (a < b) = false := decide_eq_false (by omega)
    have H := Lib.hid e; clear e
    go_enter Try.func70, Try.ntmps70
    go_wp2
    go_ret
    exact ⟨by rw [H.out]; rfl, by (repeat (first | (with_reducible exact Ext.refl _) | (with_reducible assumption) | (with_reducible refine Ext.alloc ?_ _) | ((with_reducible refine Ext.setp ?_ ?_); focus (dsimp only; omega)) | (with_reducible refine Ext.drew ?_) | (with_reducible refine Ext.drewN ?_ _) | (with_reducible refine Ext.trans ?_ (by assumption))))⟩

theorem orE_any (a b : Int) (g : Nat) (w : World) (h : Blk w g #[.int .i64 a, .int .i64 b] 26) :
    Calls Try.prog 68 #[.slice (some ⟨g, 0, none⟩) 2 2] w fun e w' => e = .returned (.int .i64 (orE a b)) ∧ Ext w w' := by
  have c := h.cell
  have H := Lib.hid h; clear h
  by_cases ha : a = 0
  · subst ha
    by_cases hb : b = 0
    · subst hb
      go_enter Try.func68, Try.ntmps68
      go_wp2_with fail
      refine wp_loop_rounds 3 ?_
      rw [rounds_succ]
      go_wp2
      rw [rounds_succ]
      go_wp2
      rw [rounds_succ]
      go_wp2
      go_ret
      exact ⟨rfl, by (repeat (first | (with_reducible exact Ext.refl _) | (with_reducible assumption) | (with_reducible refine Ext.alloc ?_ _) | ((with_reducible refine Ext.setp ?_ ?_); focus (dsimp only; omega)) | (with_reducible refine Ext.drew ?_) | (with_reducible refine Ext.drewN ?_ _) | (with_reducible refine Ext.trans ?_ (by assumption))))⟩
    · have hb' : (b != 0) = true := by simpa using hb
      have e : orE 0 b = b := rfl
      go_enter Try.func68, Try.ntmps68
      go_wp2_with fail
      refine wp_loop_rounds 2 ?_
      rw [rounds_succ]
      go_wp2
      rw [rounds_succ]
      go_wp2
      go_ret
      exact ⟨rfl, by (repeat (first | (with_reducible exact Ext.refl _) | (with_reducible assumption) | (with_reducible refine Ext.alloc ?_ _) | ((with_reducible refine Ext.setp ?_ ?_); focus (dsimp only; omega)) | (with_reducible refine Ext.drew ?_) | (with_reducible refine Ext.drewN ?_ _) | (with_reducible refine Ext.trans ?_ (by assumption))))⟩
  · have ha' : (a != 0) = true := by simpa using ha
    have e : orE a b = a := by simp [orE, ha]
    have HE := Lib.hid e; clear e
    go_enter Try.func68, Try.ntmps68
    go_wp2_with fail
    refine wp_loop_rounds 1 ?_
    rw [rounds_succ]
    go_wp2
    go_ret
    exact ⟨by rw [HE.out]; rfl, by (repeat (first | (with_reducible exact Ext.refl _) | (with_reducible assumption) | (with_reducible refine Ext.alloc ?_ _) | ((with_reducible refine Ext.setp ?_ ?_); focus (dsimp only; omega)) | (with_reducible refine Ext.drew ?_) | (with_reducible refine Ext.drewN ?_ _) | (with_reducible refine Ext.trans ?_ (by assumption))))⟩

theorem check2_any (v1 v2 : Value) (l1 l2 : List Int) (w : World) (h1 : RdI .u32 w v1 l1) (h2 : RdI .u32 w v2 l2) :
    Calls Try.prog 40 #[v1, v2] w fun e w' => e = .returned (.int .i64 (chk2 l1 l2)) ∧ Ext w w' := by
  have H1 := Lib.hid h1; have H2 := Lib.hid h2; clear h1 h2
  go_enter Try.func40, Try.ntmps40
  go_wp2_with fail
  refine (check1_any v1 l1 _ H1.out).mono ?_
  rintro e w1 ⟨rfl, hx1⟩
  have HX := Lib.hid hx1; clear hx1
  go_wp2_with fail
  refine (check1_any v2 l2 _ (H2.out.ext HX.out)).mono ?_
  rintro e w2 ⟨rfl, hx2⟩
  have HX2 := Lib.hid (HX.out.trans hx2); clear hx2
  go_wp2_with fail
  refine (orE_any (chkE l1) (chkE l2) w2.heap.size _ (Blk.new w2 _ _)).mono ?_
  rintro e w3 ⟨rfl, hx3⟩
  have HX3 := Lib.hid ((HX2.out.alloc _).trans hx3); clear hx3
  go_wp2
  go_ret
  exact ⟨rfl, HX3.out⟩

end Go.Proofs.Ytoicjiiifffciaa
