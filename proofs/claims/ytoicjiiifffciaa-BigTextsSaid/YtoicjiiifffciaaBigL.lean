/- Walks of bits.Len32 and length of layer 5. Conditions: none. -/
import Derived.Test.YtoicjiiifffciaaBigK
import Derived.Lib.BitFns
namespace Go.Proofs.Ytoicjiiifffciaa
set_option linter.unusedSimpArgs false
set_option linter.unusedVariables false
open Go.RowKit

theorem tab_size : Lib.len8tab.size = 256 := by decide +kernel
theorem tab_at : ∀ n : Fin 256, (Lib.len8tab[n.val]'(by rw [tab_size]; exact n.2)).toNat = Lib.bitLen n.val := by decide +kernel
theorem tab_of (k : Nat) (h : k < Lib.len8tab.size) : (Lib.len8tab[k]).toNat = Lib.bitLen k := tab_at ⟨k, by rw [tab_size] at h; exact h⟩
theorem bitLen_small (n : Nat) (h : n < 256) : Lib.bitLen n ≤ 8 := Lib.bitLen_le8 ⟨n, h⟩

theorem len_val (x : Int) (k : Nat) (s t : Int) (h0 : 0 ≤ t) (ht : t < 256) (hs : 0 ≤ s ∧ s ≤ 24) (hb : t.toNat < Lib.len8tab.size) (he : Lib.bitLen x.toNat = s.toNat + Lib.bitLen t.toNat) :
    wrap64 (s + wrap64 ((Lib.len8tab[t.toNat]).toNat : Int)) = (Lib.bitLen x.toNat : Int) := by
  rw [tab_of _ hb, he]
  have := bitLen_small t.toNat (by omega)
  unfold wrap64
  omega

theorem len32_any (x : Int) (w : World) (h0 : 0 ≤ x) (h1 : x < 4294967296) :
    Calls Try.prog 78 #[.int .u32 x] w fun e w' => e = .returned (.int .i64 (Lib.bitLen x.toNat)) ∧ Ext w w' := by
  have hsz := tab_size
  by_cases a : 65536 ≤ x
  · by_cases b : 256 ≤ x / 65536
    · have he := Lib.bitLen_shift24 x.toNat (by omega) (by omega)
      rw [show x.toNat / 16777216 = (x / 65536 / 256).toNat by omega] at he
      have q1 : (0 : Int) ≤ x / 65536 / 256 := by omega
      have q2 : x / 65536 / 256 < (Lib.len8tab.size : Int) := by rw [hsz]; omega
      have q3 : (x / 65536 / 256).toNat < Lib.len8tab.size := by omega
      have HE := Lib.hid (len_val x 0 24 (x / 65536 / 256) q1 (by omega) (by omega) q3 he)
      clear he hsz
      go_enter Try.func78, Try.ntmps78
      go_wp2
      go_ret
      exact ⟨by rw [← HE.out]; rfl, Ext.refl w⟩
    · have he := Lib.bitLen_shift16 x.toNat (by omega) (by omega)
      rw [show x.toNat / 65536 = (x / 65536).toNat by omega] at he
      have q1 : (0 : Int) ≤ x / 65536 := by omega
      have q2 : x / 65536 < (Lib.len8tab.size : Int) := by rw [hsz]; omega
      have q3 : (x / 65536).toNat < Lib.len8tab.size := by omega
      have HE := Lib.hid (len_val x 0 16 (x / 65536) q1 (by omega) (by omega) q3 he)
      clear he hsz
      go_enter Try.func78, Try.ntmps78
      go_wp2
      go_ret
      exact ⟨by rw [← HE.out]; rfl, Ext.refl w⟩
  · by_cases b : 256 ≤ x
    · have he := Lib.bitLen_shift8 x.toNat (by omega) (by omega)
      rw [show x.toNat / 256 = (x / 256).toNat by omega] at he
      have q1 : (0 : Int) ≤ x / 256 := by omega
      have q2 : x / 256 < (Lib.len8tab.size : Int) := by rw [hsz]; omega
      have q3 : (x / 256).toNat < Lib.len8tab.size := by omega
      have HE := Lib.hid (len_val x 0 8 (x / 256) q1 (by omega) (by omega) q3 he)
      clear he hsz
      go_enter Try.func78, Try.ntmps78
      go_wp2
      go_ret
      exact ⟨by rw [← HE.out]; rfl, Ext.refl w⟩
    · have q2 : x < (Lib.len8tab.size : Int) := by rw [hsz]; omega
      have q3 : x.toNat < Lib.len8tab.size := by omega
      have HE := Lib.hid (len_val x 0 0 x h0 (by omega) (by omega) q3 (by simp))
      clear hsz
      go_enter Try.func78, Try.ntmps78
      go_wp2
      go_ret
      exact ⟨by rw [← HE.out, Int.zero_add]; rfl, Ext.refl w⟩

/-- The number of binary digits. -/
def blen (n : Nat) : Nat := if n = 0 then 0 else n.log2 + 1

theorem blen_le {n k : Nat} : blen n ≤ k ↔ n < 2 ^ k := by
  unfold blen
  by_cases h : n = 0
  · subst h; simp [Nat.pow_pos]
  · rw [if_neg h, ← Nat.log2_lt h]; omega

theorem blen_half {n : Nat} (h : n ≠ 0) : blen n = 1 + blen (n / 2) := by
  apply Nat.le_antisymm
  · refine blen_le.2 ?_
    have h1 := blen_le.1 (Nat.le_refl (blen (n / 2)))
    rw [Nat.add_comm, Nat.pow_succ]
    omega
  · rcases Nat.eq_zero_or_pos (blen n) with h0 | h0
    · have := blen_le.1 (Nat.le_of_eq h0); omega
    · have h1 := blen_le.1 (Nat.le_refl (blen n))
      have : blen (n / 2) ≤ blen n - 1 := by
        refine blen_le.2 ?_
        rw [show blen n = blen n - 1 + 1 by omega, Nat.pow_succ] at h1
        omega
      omega

theorem bitLenAux_blen : ∀ (f x : Nat), x < 2 ^ f → Lib.bitLenAux f x = blen x := by
  intro f
  induction f with
  | zero => intro x hx; have : x = 0 := by simpa using hx
            subst this; rfl
  | succ f ih =>
    intro x hx
    rw [Lib.bitLenAux]
    by_cases h : x = 0
    · subst h; rfl
    · rw [if_neg h, blen_half h, ih (x / 2) (by rw [Nat.pow_succ] at hx; omega)]

theorem bitLen_blen (x : Nat) (h : x < 4294967296) : Lib.bitLen x = blen x := bitLenAux_blen 64 x (Nat.lt_of_lt_of_le h (by decide))

theorem blen_pos {n : Nat} (h : n ≠ 0) : 0 < blen n := by unfold blen; rw [if_neg h]; omega

theorem blen_top {j t r : Nat} (hr : r < 2 ^ j) (ht : t ≠ 0) : blen (r + 2 ^ j * t) = j + blen t := by
  apply Nat.le_antisymm
  · refine blen_le.2 ?_
    have h1 := blen_le.1 (Nat.le_refl (blen t))
    have h2 : 2 ^ j * (t + 1) ≤ 2 ^ j * 2 ^ blen t := Nat.mul_le_mul_left _ h1
    rw [Nat.mul_add, Nat.mul_one] at h2
    rw [Nat.pow_add]
    omega
  · rcases Nat.lt_or_ge (blen (r + 2 ^ j * t)) (j + blen t) with h | h
    · exfalso
      have hp := blen_pos ht
      have h1 := blen_le.1 (show blen (r + 2 ^ j * t) ≤ j + (blen t - 1) by omega)
      rw [Nat.pow_add] at h1
      have h2 : ¬ t < 2 ^ (blen t - 1) := fun hlt => by have := blen_le.2 hlt; omega
      have h3 : 2 ^ j * 2 ^ (blen t - 1) ≤ 2 ^ j * t := Nat.mul_le_mul_left _ (by omega)
      omega
    · exact h

theorem pow_two (j : Nat) : (4294967296 : Nat) ^ j = 2 ^ (32 * j) := by rw [Nat.pow_mul]

theorem blen_nv {l : List Int} (hl : Lim l) (hz : NoZ l) (h0 : 0 < l.length) : blen (nv l) = 32 * (l.length - 1) + blen (l.getD (l.length - 1) 0).toNat := by
  have h1 := nv_takeD (l := l) (k := l.length - 1) (by omega)
  rw [show l.length - 1 + 1 = l.length by omega, List.take_length, pow_two] at h1
  have h2 := nv_lt (lim_take hl (l.length - 1))
  rw [List.length_take_of_le (by omega), pow_two] at h2
  rw [h1]
  refine blen_top h2 ?_
  have h3 := getD_lim hl (l.length - 1)
  intro e
  apply hz
  rw [getLast_getD l h0, show l.getD (l.length - 1) 0 = 0 by omega]

theorem length_any (v : Value) (l : List Int) (w : World) (h : RdI .u32 w v l) (hl : Lim l) (hz : NoZ l) (hs : l.length ≤ 1000000) :
    Calls Try.prog 66 #[v] w fun e w' => e = .returned (.int .i64 (blen (nv l))) ∧ Ext w w' := by
  obtain ⟨a, cap, rfl, hc, hm, hr⟩ := rdU h
  clear h
  by_cases h0 : 0 < l.length
  · obtain ⟨b, off, rfl, hb, hx⟩ := hr (l.length - 1) (by omega)
    have e := blen_nv hl hz h0
    have hxl := getD_lim hl (l.length - 1)
    obtain ⟨x, hxx⟩ : ∃ x, x = l.getD (l.length - 1) 0 := ⟨_, rfl⟩
    rw [← hxx] at hx e hxl
    rw [← bitLen_blen x.toNat (by omega)] at e
    have hbl : Lib.bitLen x.toNat ≤ 32 := Lib.bitLen_le _ 32 (by omega) (by omega)
    have HE := Lib.hid e
    have hl0 : ((l.length : Int) == 0) = false := by simp; intro h; subst h; simp at h0
    clear hr hxx e hl hz
    go_enter Try.func66, Try.ntmps66
    go_wp2_with fail
    refine (len32_any x _ hxl.1 hxl.2).mono ?_
    rintro e w1 ⟨rfl, hx1⟩
    have X1 := Lib.hid hx1; clear hx1
    obtain ⟨n, hn⟩ : ∃ n, n = Lib.bitLen x.toNat := ⟨_, rfl⟩
    rw [← hn] at hbl HE ⊢
    clear hn
    go_wp2_with fail
    go_ret
    refine ⟨?_, X1.out⟩
    rw [HE.out]
    refine ret_int ?_
    omega
  · have e : l = [] := List.length_eq_zero_iff.1 (by omega)
    subst e
    go_enter Try.func66, Try.ntmps66
    go_wp2
    go_ret
    exact ⟨rfl, Ext.refl w⟩

end Go.Proofs.Ytoicjiiifffciaa
