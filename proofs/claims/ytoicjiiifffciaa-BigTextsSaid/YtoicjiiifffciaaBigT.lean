/- Walks of the small functions of layer 5: trim, fit, Check. Conditions: rows of limbs. -/
import Derived.Test.YtoicjiiifffciaaBigB
namespace Go.Proofs.Ytoicjiiifffciaa
set_option linter.unusedSimpArgs false
set_option linter.unusedVariables false
open Go.RowKit

theorem map_u32_len (l : List Int) : (l.map (Value.int .u32)).length = l.length := List.length_map ..

/-- The length of a slice. -/
def slen : Value → Nat | .slice _ k _ => k | _ => 0

theorem take_noZ {l : List Int} (hl : Lim l) {k : Nat} (hk : k ≤ l.length) (h : k = 0 ∨ l.getD (k - 1) 0 ≠ 0) (he : nv (l.take k) = nv l) : l.take k = lim (nv l) := by
  rw [← he]
  refine (lim_nv (lim_take hl k) ?_).symm
  unfold NoZ
  rcases Nat.eq_zero_or_pos k with rfl | h3
  · simp
  · have h2 := h.resolve_left (by omega)
    rw [List.getLast?_eq_getElem?, List.length_take_of_le hk, List.getElem?_take_of_lt (by omega), List.getElem?_eq_getElem (by omega)]
    rw [List.getD_eq_getElem?_getD, List.getElem?_eq_getElem (by omega)] at h2
    simpa using h2

theorem take_less {l : List Int} {k : Nat} (hk : k ≤ l.length) (h0 : 0 < k) (h : l.getD (k - 1) 0 = 0) (he : nv (l.take k) = nv l) : nv (l.take (k - 1)) = nv l := by
  have hlt : k - 1 < l.length := by omega
  refine nv_take_zero hlt ?_ (by rw [show k - 1 + 1 = k by omega]; exact he)
  rw [List.getD_eq_getElem?_getD, List.getElem?_eq_getElem hlt] at h
  simpa using h

theorem RowU.lim {w : World} {g cap : Nat} {l : List Int} (h : RowU w g cap l) {k : Nat} (e : l.take k = lim (nv l)) : RowU w g cap (lim (nv l)) := by rw [← e]; exact h.take k

set_option maxHeartbeats 400000 in
theorem trim_row (g cap : Nat) (l : List Int) (w : World) (h : RowU w g cap l) (hl : Lim l) :
    Calls Try.prog 52 #[.slice (some ⟨g, 0, none⟩) l.length cap] w fun e w' => e = .returned (.slice (some ⟨g, 0, none⟩) (lim (nv l)).length cap) ∧ RowU w' g cap (lim (nv l)) ∧ Ext w w' := by
  have hle := h.le; have hmost := h.most
  have H := Lib.hid h; clear h
  have HL := Lib.hid hl; clear hl
  go_enter Try.func52, Try.ntmps52
  go_wp2
  go_loopw [0] (fun v wr => ∃ k : Nat, k ≤ l.length ∧ v = .slice (some ⟨g, 0, none⟩) k cap ∧ nv (l.take k) = nv l ∧ ∃ n, wr = w.drewN n)
    (fun v _ => slen v)
  case atStart => exact ⟨l.length, Nat.le_refl _, rfl, by rw [List.take_length], 0, rfl⟩
  case round =>
    obtain ⟨k, hk, rfl, htake, n, rfl⟩ := hrel
    have HT := Lib.hid htake; clear htake
    by_cases h0 : 0 < k
    · have hc := H.out.cell (i := k - 1) (by omega)
      obtain ⟨x, hx⟩ : ∃ x, x = l.getD (k - 1) 0 := ⟨_, rfl⟩
      rw [← hx] at hc
      have HX := Lib.hid hx; clear hx
      by_cases hz : x = 0
      · subst hz
        go_wp2
        go_roundw
        case rel => exact ⟨k - 1, by omega, by go_num, take_less hk h0 HX.out.symm HT.out, _, rfl⟩
        case measure => simp [slen]; omega
      · have hz' : (x == 0) = false := by simpa using hz
        go_wp2
        go_ret
        have e := take_noZ HL.out hk (.inr (by rw [← HX.out]; exact hz)) HT.out
        have el : (lim (nv l)).length = k := by rw [← e, List.length_take_of_le hk]
        exact ⟨by rw [el]; rfl, (H.out.lim e).ext ((Ext.refl w).drewN _), (Ext.refl w).drewN _⟩
    · obtain rfl : k = 0 := by omega
      go_wp2
      go_ret
      have e := take_noZ HL.out hk (.inl rfl) HT.out
      have el : (lim (nv l)).length = 0 := by rw [← e]; rfl
      exact ⟨by rw [el]; rfl, (H.out.lim e).ext ((Ext.refl w).drewN _), (Ext.refl w).drewN _⟩

set_option maxHeartbeats 400000 in
theorem trim_nil (a : Option Addr) (w : World) :
    Calls Try.prog 52 #[.slice a 0 0] w fun e w' => e = .returned (.slice a 0 0) ∧ Ext w w' := by
  go_enter Try.func52, Try.ntmps52
  go_wp2
  go_loopw [0] (fun v wr => v = .slice a 0 0 ∧ ∃ n, wr = w.drewN n) (fun _ _ => 0)
  case atStart => exact ⟨rfl, 0, rfl⟩
  case round =>
    obtain ⟨rfl, n, rfl⟩ := hrel
    go_wp2
    go_ret
    exact ⟨rfl, (Ext.refl w).drewN _⟩

/-- trim: leading zeros off. -/
theorem trim_any (o : Option Nat) (v : Value) (l : List Int) (w : World) (h : OwV w o v l) (hl : Lim l) :
    Calls Try.prog 52 #[v] w fun e w' => ∃ v', e = .returned v' ∧ OwV w' o v' (lim (nv l)) ∧ Ext w w' := by
  rcases h with ⟨rfl, rfl, a, ha, rfl⟩ | ⟨g, cap, rfl, rfl, h⟩
  · exact (trim_nil a w).mono fun e w' ⟨he, hx⟩ => ⟨_, he, .inl ⟨rfl, rfl, a, ha, rfl⟩, hx⟩
  · exact (trim_row g cap l w h hl).mono fun e w' ⟨he, hr, hx⟩ => ⟨_, he, .row hr, hx⟩

end Go.Proofs.Ytoicjiiifffciaa
