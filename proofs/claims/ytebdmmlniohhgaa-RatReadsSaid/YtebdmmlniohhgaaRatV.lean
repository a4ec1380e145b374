/- Walks of strings.Cut at '/' and of strings.CutPrefix at '-'. Conditions: none. -/
import Derived.Test.YtebdmmlniohhgaaRatU
import Derived.Lib.Bytealg
import Derived.Lib.Strings
import Derived.Lib.IndexLaws
import Derived.Laws.Externs
namespace Go.Proofs.Ytebdmmlniohhgaa
set_option linter.unusedSimpArgs false
set_option linter.unusedVariables false
open Go.RowKit

/-- Where the first '/' stands. -/
def sl (s : ByteArray) : Int := Lib.indexByte s.data.toList 47

theorem slIdxByte_any (s : ByteArray) (w : World) :
    Calls Try.prog 130 #[.string s, .int .u8 47] w fun e w' => e = .returned (.int .i64 (sl s)) ∧ w' = w := by
  have hx : ∀ W, (callFunc 134 #[.string s, .int .u8 47]).run Try.prog W = .ok (.value (.int .i64 (sl s))) W := fun W => by
    rw [run_callFunc_extern Try.func134 (by kernel_rfl) (by kernel_rfl) (by kernel_rfl) (e := Extern.BytealgIndexByte.indexByte) (by kernel_rfl), Lib.run_indexByteString]
    rfl
  go_enter Try.func130, Try.ntmps130
  go_wp2
  go_ret
  exact ⟨rfl, rfl⟩

theorem slIdx_any (s : ByteArray) (w : World) :
    Calls Try.prog 125 #[.string s, .string ⟨#[47]⟩] w fun e w' => e = .returned (.int .i64 (sl s)) ∧ w' = w := by
  have h := slIdxByte_any s
  obtain ⟨I, hI⟩ : ∃ I, I = sl s := ⟨_, rfl⟩
  rw [← hI] at h ⊢
  have H := Lib.hid h; have HI := Lib.hid hI
  clear h hI
  go_enter Try.func125, Try.ntmps125
  go_wp2_with fail
  · rename_i h
    have e : s.data.toList = [47] := by rw [← Lib.toList_data]; exact (beq_iff_eq.1 h).symm
    have e0 : I = 0 := by rw [HI.out]; unfold sl; rw [e]; rfl
    subst e0
    go_ret
    exact ⟨rfl, rfl⟩
  · refine (H.out _).mono ?_
    rintro e w1 ⟨rfl, rfl⟩
    go_wp2_with fail
    go_ret
    exact ⟨rfl, rfl⟩

theorem sl_cases (s : ByteArray) : sl s = -1 ∨ ∃ i : Nat, sl s = i ∧ i < s.size := by
  have hge := Lib.indexByte_ge s.data.toList 47
  by_cases h : sl s = -1
  · exact Or.inl h
  · obtain ⟨i, hi⟩ : ∃ i : Nat, sl s = i := ⟨(sl s).toNat, by unfold sl at *; omega⟩
    have h1 := (Lib.indexByte_some hi).1
    have h2 := (List.getElem?_eq_some_iff.1 h1).1
    exact Or.inr ⟨i, hi, by simpa using h2⟩

/-- The part ahead of the first '/', and the part behind it. -/
def cutA (s : ByteArray) : ByteArray := if sl s = -1 then s else s.extract 0 (sl s).toNat
def cutB (s : ByteArray) : ByteArray := if sl s = -1 then ⟨#[]⟩ else s.extract ((sl s).toNat + 1) s.size
def cutI (s : ByteArray) : Bool := decide (sl s ≠ -1)

set_option maxHeartbeats 1000000 in
theorem slCut_any (s : ByteArray) (w : World) (hs : s.size ≤ 1000000000) :
    Calls Try.prog 111 #[.string s, .string ⟨#[47]⟩] w fun e w' => e = .returned (.tuple #[.string (cutA s), .string (cutB s), .bool (cutI s)]) ∧ Ext w w' := by
  have h := slIdx_any s
  rcases sl_cases s with hx | ⟨i, hx, hi⟩
  · have e1 : cutA s = s := by unfold cutA; rw [if_pos hx]
    have e2 : cutB s = ⟨#[]⟩ := by unfold cutB; rw [if_pos hx]
    have e3 : cutI s = false := by unfold cutI; rw [hx]; rfl
    rw [hx] at h
    rw [e1, e2, e3]
    have H := Lib.hid h
    clear h hx e1 e2 e3
    go_enter Try.func111, Try.ntmps111
    go_wp2_with fail
    refine (H.out _).mono ?_
    rintro e w1 ⟨rfl, rfl⟩
    go_wp2_with fail
    go_ret3
    exact ⟨rfl, Ext.refl _⟩
  · have e1 : cutA s = s.extract 0 i := by unfold cutA; rw [if_neg (by omega), hx]; rfl
    have e2 : cutB s = s.extract (i + 1) s.size := by unfold cutB; rw [if_neg (by omega), hx]; rfl
    have e3 : cutI s = true := by unfold cutI; rw [hx]; exact decide_eq_true (by omega)
    rw [hx] at h
    rw [e1, e2, e3]
    have H := Lib.hid h
    have q1 : (0 : Int) ≤ (i : Int) := by omega
    have q2 : (i : Int) ≤ (s.size : Int) := by omega
    have q3 : (0 : Int) ≤ (i : Int) + 1 := by omega
    have q4 : (i : Int) + 1 ≤ (s.size : Int) := by omega
    clear h hx e1 e2 e3
    go_enter Try.func111, Try.ntmps111
    go_wp2_with fail
    refine (H.out _).mono ?_
    rintro e w1 ⟨rfl, rfl⟩
    go_wp2_with fail
    have hmx : Try.prog.follows .mixedOrders = true := by kernel_rfl
    go_quiet (fail)
    go_wp2_with fail
    go_ret3
    exact ⟨rfl, by (repeat (first | (with_reducible exact Ext.refl _) | (with_reducible assumption) | (with_reducible refine Ext.alloc ?_ _) | ((with_reducible refine Ext.setp ?_ ?_); focus (dsimp only; omega)) | (with_reducible refine Ext.drew ?_) | (with_reducible refine Ext.drewN ?_ _) | (with_reducible refine Ext.trans ?_ (by assumption))))⟩

theorem strCut_any (s : ByteArray) (w : World) (hs : s.size ≤ 1000000000) :
    Calls Try.prog 69 #[.string s, .string ⟨#[47]⟩] w fun e w' => e = .returned (.tuple #[.string (cutA s), .string (cutB s), .bool (cutI s)]) ∧ Ext w w' := by
  have H := Lib.hid (fun W => slCut_any s W hs)
  obtain ⟨A, hA⟩ : ∃ A, A = cutA s := ⟨_, rfl⟩
  obtain ⟨B, hB⟩ : ∃ B, B = cutB s := ⟨_, rfl⟩
  obtain ⟨C, hC⟩ : ∃ C, C = cutI s := ⟨_, rfl⟩
  rw [← hA, ← hB, ← hC] at H ⊢
  clear hA hB hC
  go_enter Try.func69, Try.ntmps69
  go_wp2_with fail
  refine (H.out _).mono ?_
  rintro e w1 ⟨rfl, hx1⟩
  have X1 := Lib.hid hx1
  clear hx1
  go_wp2_with fail
  go_ret3
  exact ⟨rfl, X1.out⟩

/-- Does the text begin with '-'? -/
def negT (s : ByteArray) : Bool := decide (1 ≤ s.size) && ((s.extract 0 1).toList == [45])
def bodyT (s : ByteArray) : ByteArray := if negT s = true then s.extract 1 s.size else s

set_option maxHeartbeats 1000000 in
theorem slPre_any (s : ByteArray) (w : World) :
    Calls Try.prog 124 #[.string s, .string ⟨#[45]⟩] w fun e w' => e = .returned (.bool (negT s)) ∧ w' = w := by
  by_cases h1 : 1 ≤ s.size
  · cases h2 : ((s.extract 0 1).toList == [45])
    · have e : negT s = false := by unfold negT; rw [h2]; simp
      rw [e]
      clear e
      go_enter Try.func124, Try.ntmps124
      go_wp2
      go_ret
      exact ⟨rfl, rfl⟩
    · have e : negT s = true := by unfold negT; rw [h2]; simp [h1]
      rw [e]
      clear e
      go_enter Try.func124, Try.ntmps124
      go_wp2
      go_ret
      exact ⟨rfl, rfl⟩
  · have e : negT s = false := by unfold negT; simp [h1]
    rw [e]
    clear e
    go_enter Try.func124, Try.ntmps124
    go_wp2
    go_ret
    exact ⟨rfl, rfl⟩

set_option maxHeartbeats 1000000 in
theorem slCutPre_any (s : ByteArray) (w : World) (hs : s.size ≤ 1000000000) :
    Calls Try.prog 110 #[.string s, .string ⟨#[45]⟩] w fun e w' => e = .returned (.tuple #[.string (bodyT s), .bool (negT s)]) ∧ w' = w := by
  have h := slPre_any s
  cases hn : negT s
  · have e : bodyT s = s := by unfold bodyT; rw [hn]; rfl
    rw [e]
    rw [hn] at h
    have H := Lib.hid h
    clear h hn e
    go_enter Try.func110, Try.ntmps110
    go_wp2_with fail
    refine (H.out _).mono ?_
    rintro e w1 ⟨rfl, rfl⟩
    go_wp2_with fail
    go_ret2
    exact ⟨rfl, rfl⟩
  · have e : bodyT s = s.extract 1 s.size := by unfold bodyT; rw [hn]; rfl
    have h1 : 1 ≤ s.size := by unfold negT at hn; simp at hn; omega
    have q1 : (1 : Int) ≤ (s.size : Int) := by omega
    rw [e]
    rw [hn] at h
    have H := Lib.hid h
    clear h hn e
    go_enter Try.func110, Try.ntmps110
    go_wp2_with fail
    refine (H.out _).mono ?_
    rintro e w1 ⟨rfl, rfl⟩
    go_wp2_with fail
    go_ret2
    exact ⟨rfl, rfl⟩

theorem strCutPre_any (s : ByteArray) (w : World) (hs : s.size ≤ 1000000000) :
    Calls Try.prog 68 #[.string s, .string ⟨#[45]⟩] w fun e w' => e = .returned (.tuple #[.string (bodyT s), .bool (negT s)]) ∧ w' = w := by
  have H := Lib.hid (fun W => slCutPre_any s W hs)
  obtain ⟨A, hA⟩ : ∃ A, A = bodyT s := ⟨_, rfl⟩
  obtain ⟨B, hB⟩ : ∃ B, B = negT s := ⟨_, rfl⟩
  rw [← hA, ← hB] at H ⊢
  clear hA hB
  go_enter Try.func68, Try.ntmps68
  go_wp2_with fail
  refine (H.out _).mono ?_
  rintro e w1 ⟨rfl, rfl⟩
  go_wp2_with fail
  go_ret2
  exact ⟨rfl, rfl⟩

end Go.Proofs.Ytebdmmlniohhgaa
