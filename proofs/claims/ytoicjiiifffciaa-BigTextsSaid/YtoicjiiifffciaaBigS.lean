/- Walk of divide of layer 5. Conditions: numbers without leading zeros, of bounded length; the divisor is not 0. -/
import Derived.Test.YtoicjiiifffciaaBigR
import Derived.Test.YtoicjiiifffciaaBigJ
namespace Go.Proofs.Ytoicjiiifffciaa
set_option linter.unusedSimpArgs false
set_option linter.unusedVariables false
open Go.RowKit Go.Shelf
attribute [local go_sem] Oper.semAt_some

theorem OwB.kz {m B : Nat} {A C : World} {v : Value} {l : List Int} (h : OwB A B v l) (k : Kz m A C) (hB : m + 1 < B) : OwB C B v l := by
  obtain ⟨o, h1, h2⟩ := h
  refine ⟨o, ?_, h2⟩
  rcases h1 with h | ⟨g, cap, ho, hv, hr⟩
  · exact .inl h
  · exact .inr ⟨g, cap, ho, hv, hr.kz k (.inr (by have := h2 g ho; omega))⟩

theorem div_step (A b x : Nat) (hb : 0 < b) (hx : x < 2) : 2 * (A % b) + x < 2 * b ∧
    (2 * A + x) / b = 2 * (A / b) + (if b ≤ 2 * (A % b) + x then 1 else 0) ∧ (2 * A + x) % b = if b ≤ 2 * (A % b) + x then 2 * (A % b) + x - b else 2 * (A % b) + x := by
  have h1 := Nat.mod_lt A hb
  have h2 := Nat.div_add_mod A b
  refine ⟨by omega, ?_⟩
  have e : 2 * A + x = (2 * (A % b) + x) + b * (2 * (A / b)) := by
    rw [show b * (2 * (A / b)) = 2 * (b * (A / b)) by rw [Nat.mul_left_comm]]; omega
  rw [e, Nat.add_mul_div_left _ _ hb, Nat.add_mul_mod_self_left]
  split
  · rename_i h
    rw [show 2 * (A % b) + x = (2 * (A % b) + x - b) + b * 1 by omega, Nat.add_mul_div_left _ _ hb, Nat.add_mul_mod_self_left, Nat.div_eq_of_lt (by omega), Nat.mod_eq_of_lt (by omega)]
    exact ⟨by omega, by omega⟩
  · rw [Nat.div_eq_of_lt (by omega), Nat.mod_eq_of_lt (by omega)]
    exact ⟨by omega, rfl⟩

theorem shr_bit (n k : Nat) : n / 2 ^ k = 2 * (n / 2 ^ (k + 1)) + bitN n k := by
  unfold bitN
  rw [Nat.pow_succ, ← Nat.div_div_eq_div_mul]
  omega

/-- A bit of a limb, none below it being set. -/
theorem or_bit (z : Int) (k : Nat) (hz : 0 ≤ z ∧ z < 4294967296) (hk : k < 32) (hm : z.toNat % 2 ^ (k + 1) = 0) :
    bits .or .u32 z (2 ^ k % 4294967296) = ((z.toNat + 2 ^ k : Nat) : Int) ∧ z.toNat + 2 ^ k < 4294967296 := by
  obtain ⟨a, rfl⟩ := Int.eq_ofNat_of_zero_le hz.1
  rw [Int.toNat_natCast] at hm ⊢
  have hp : 2 ^ (k + 1) ≤ 2 ^ 32 := Nat.pow_le_pow_right (by omega) (by omega)
  have hs := Nat.pow_succ 2 k
  have ha : a < 2 ^ 32 := by omega
  have hk2 : 2 ^ k < 2 ^ 32 := Nat.pow_lt_pow_right (by omega) hk
  have hdvd : 2 ^ (k + 1) ∣ 2 ^ 32 := Nat.pow_dvd_pow 2 (by omega)
  have hle : a + 2 ^ (k + 1) ≤ 2 ^ 32 := by
    obtain ⟨c, hc⟩ := Nat.dvd_of_mod_eq_zero hm
    obtain ⟨d, hd⟩ := hdvd
    have hlt : c < d := by
      apply Nat.lt_of_mul_lt_mul_left (a := 2 ^ (k + 1))
      rw [← hc, ← hd]; exact ha
    have := Nat.mul_le_mul_left (2 ^ (k + 1)) (show c + 1 ≤ d from hlt)
    rw [Nat.mul_add, Nat.mul_one, ← hc, ← hd] at this
    exact this
  have e : ((2 : Int) ^ k % 4294967296) = ((2 ^ k : Nat) : Int) := by
    have : ((2 : Int) ^ k) = ((2 ^ k : Nat) : Int) := by simp
    rw [this]
    have hk3 : 2 ^ k < 4294967296 := hk2
    omega
  have ha' : a < 4294967296 := ha
  have hk' : 2 ^ k < 4294967296 := hk2
  rw [e, (bits_u32 a (2 ^ k) ha' hk').2.1, or_add a (2 ^ k) (k + 1) hm (by omega)]
  exact ⟨rfl, by omega⟩

theorem limb_low {l : List Int} (hl : Lim l) {k : Nat} (hk : k / 32 < l.length) (h : nv l % 2 ^ (k + 1) = 0) : (l.getD (k / 32) 0).toNat % 2 ^ (k % 32 + 1) = 0 := by
  have h1 := nv_split l (k / 32) (by omega)
  have h2 := nv_lt (lim_take hl (k / 32))
  rw [List.length_take_of_le (by omega)] at h2
  have h3 : nv (l.drop (k / 32)) = (l.getD (k / 32) 0).toNat + 4294967296 * nv (l.drop (k / 32 + 1)) := by
    rw [List.drop_eq_getElem_cons hk, nv_cons, List.getD_eq_getElem?_getD, List.getElem?_eq_getElem hk]; rfl
  rw [pow_two] at h1 h2
  have hk1 : k + 1 = 32 * (k / 32) + (k % 32 + 1) := by omega
  rw [hk1, Nat.pow_add] at h
  generalize (l.getD (k / 32) 0).toNat = z at *
  generalize nv (l.drop (k / 32 + 1)) = t at *
  generalize nv (l.take (k / 32)) = s at *
  have hdv := Nat.dvd_of_mod_eq_zero h
  have h4 : 2 ^ (32 * (k / 32)) ∣ nv l := Nat.dvd_trans (Nat.dvd_mul_right _ _) hdv
  have h5 : s = 0 := by
    rw [h1] at h4
    have := (Nat.dvd_add_left (Nat.dvd_mul_right _ _)).1 h4
    exact Nat.eq_zero_of_dvd_of_lt this h2
  rw [h1, h5, Nat.zero_add] at hdv
  have h6 := Nat.dvd_of_mul_dvd_mul_left (Nat.pow_pos (by omega)) hdv
  rw [h3] at h6
  have h7 : 2 ^ (k % 32 + 1) ∣ 4294967296 * t := by
    rw [show (4294967296 : Nat) = 2 ^ (k % 32 + 1) * 2 ^ (31 - k % 32) by rw [← Nat.pow_add, show k % 32 + 1 + (31 - k % 32) = 32 by omega], Nat.mul_assoc]
    exact Nat.dvd_mul_right _ _
  exact Nat.mod_eq_zero_of_dvd ((Nat.dvd_add_left h7).1 h6)

theorem nv_setBit {l : List Int} {k : Nat} (hl : Lim l) (hk : k / 32 < l.length) : nv (l.set (k / 32) (((l.getD (k / 32) 0).toNat + 2 ^ (k % 32) : Nat) : Int)) = nv l + 2 ^ k := by
  have h := nv_setD hk (((l.getD (k / 32) 0).toNat + 2 ^ (k % 32) : Nat) : Int)
  rw [Int.toNat_natCast, Nat.mul_add, pow_two, ← Nat.pow_add, show 32 * (k / 32) + k % 32 = k by omega] at h
  generalize 2 ^ (32 * (k / 32)) * (l.getD (k / 32) 0).toNat = P at h
  omega

/-- 'make(api.Nat, n)', inside a fence. -/
theorem wpListIn_make_u {F : Fence} {nf : Nat} {w : World} {ops : Array Oper} {rest : List Oper} {o : Oper} {a : Act} {Q : Exit → Act → World → Prop}
    (hg : o.guard = none) (l c : Operand) (hop : o.op = Op.makeSlice 23 l c) (L C : Int) (n : Nat) (hl : a.eval l = .int .i64 L) (hc : a.eval c = .int .i64 C) (hL : L = (n : Int)) (hC : C = (n : Int)) (hn : n ≤ 1000000000)
    (hK : ∀ w', RowU w' w.heap.size n (List.replicate n 0) → Ext w w' → w'.heap.size = w.heap.size + 1 → wpListIn F nf Try.prog ops Q rest (a.put o.dst (.slice (some ⟨w.heap.size, 0, none⟩) n n)) w') :
    wpListIn F nf Try.prog ops Q (o :: rest) a w := by
  obtain ⟨i0, hi, hz0, hz1, hz2⟩ := info_parts Try.infoU
  have h63' : (n : Int) ≤ 9223372036854775807 := by omega
  have hr := run_make (P := Try.prog) w 23 50 i0 (.int .u32 0) Try.underlying23 hi hz0 .i64 .i64 n n (by omega) (Int.le_refl _) (by rw [hz2]; omega) h63'
  simp only [Int.toNat_natCast, hz1] at hr
  have hrow : RowU (w.alloc (.cells (madeCells (Value.int .u32 0).cells (n * 1)) 50)) w.heap.size n (List.replicate n 0) := by
    refine ⟨⟨_, Blk.new w _ _, ?_, ?_⟩, by simp, by omega⟩
    · have := size_madeCells (Value.int .u32 0).cells (n * 1); simpa using this
    · have e := made_zeros n
      rw [List.length_replicate]
      rw [← e, Nat.mul_one]
      apply List.take_of_length_le
      rw [Array.length_toList, size_madeCells]; exact Nat.le_refl _
  refine wpListIn_plain hg fun K hK' => ?_
  subst hL
  subst hC
  unfold Oper.wpIn
  refine ⟨?_, ?_⟩
  · simp [Oper.about, hop]
  · rw [Oper.semAt_plain F _ _ (by rw [hop]; intro c hc'; cases hc')]
    simp only [execOp, hop, hl, hc]
    simp [hr, Result.andThen]
    rw [Nat.mul_one] at hrow
    exact hK' _ _ (hK _ hrow ((Ext.refl w).alloc _) (by simp))

end Go.Proofs.Ytoicjiiifffciaa
