/- The iterator of digits, and divide, of layer 5. Conditions: numbers without leading zeros, of bounded length. -/
import Derived.Test.YtoicjiiifffciaaBigQ
import Derived.Test.YtoicjiiifffciaaBigL
import Derived.Test.YtoicjiiifffciaaBack
namespace Go.Proofs.Ytoicjiiifffciaa
set_option linter.unusedSimpArgs false
set_option linter.unusedVariables false
open Go.RowKit Go.Shelf
attribute [local go_sem] Oper.semAt_some

theorem digits_any (a : Option Addr) (n c : Nat) (w : World) :
    Calls Try.prog 72 #[.slice a n c] w fun e w' => e = .returned (.func (.func 81) #[] #[.pointer (some ⟨w.heap.size, 0, none⟩)]) ∧ w' = w.alloc (.cells #[.slice a n c] 23) := by
  go_enter Try.func72, Try.ntmps72
  go_wp2
  go_ret
  exact ⟨rfl, rfl⟩

/-- Binary digit k. -/
def bitN (n k : Nat) : Nat := n / 2 ^ k % 2

/-- What the iterator of digits reads: its box, and the limbs. -/
def RdDg (Bx : Nat) (a : Option Addr) (cap : Nat) (l : List Int) (k : Nat) (W : World) (y : Int) : Prop :=
  W.cell? ⟨Bx, 0, none⟩ = some (.slice a l.length cap) ∧ (∀ i, i < l.length → ∃ b off, a = some ⟨b, off, none⟩ ∧ b < W.heap.size ∧ W.cell? ⟨b, off + i, none⟩ = some (.int .u32 (l.getD i 0))) ∧ y = bitN (nv l) k

theorem bit_of (l : List Int) (hl : Lim l) (i k : Nat) (hk : k < 32) (hi : i < l.length) : bitN (nv l) (32 * i + k) = (l.getD i 0).toNat / 2 ^ k % 2 := by
  have h1 := nv_split l i (by omega)
  have h2 := nv_lt (lim_take hl i)
  rw [List.length_take_of_le (by omega)] at h2
  have h3 : nv (l.drop i) = (l.getD i 0).toNat + 4294967296 * nv (l.drop (i + 1)) := by
    rw [List.drop_eq_getElem_cons hi, nv_cons, List.getD_eq_getElem?_getD, List.getElem?_eq_getElem hi]; rfl
  rw [pow_two] at h1 h2
  unfold bitN
  rw [Nat.pow_add, ← Nat.div_div_eq_div_mul, h1, Nat.add_mul_div_left _ _ (Nat.pow_pos (by omega)), Nat.div_eq_of_lt h2, Nat.zero_add, h3]
  rw [show (4294967296 : Nat) = 2 ^ k * (2 * 2 ^ (31 - k)) by rw [show (2 : Nat) * 2 ^ (31 - k) = 2 ^ (32 - k) by rw [← Nat.pow_succ', show (31 - k).succ = 32 - k by omega], ← Nat.pow_add, show k + (32 - k) = 32 by omega], Nat.mul_assoc, Nat.add_mul_div_left _ _ (Nat.pow_pos (by omega)), Nat.mul_assoc, Nat.add_mul_mod_self_left]

theorem and_one (z : Int) (k : Nat) (h : 0 ≤ z ∧ z < 4294967296) : bits .and .u32 (z / 2 ^ k) 1 = ((z.toNat / 2 ^ k % 2 : Nat) : Int) := by
  obtain ⟨a, rfl⟩ := Int.eq_ofNat_of_zero_le h.1
  have e : ((a : Int) / 2 ^ k) = ((a / 2 ^ k : Nat) : Int) := by simp
  have hl : a / 2 ^ k < 4294967296 := Nat.lt_of_le_of_lt (Nat.div_le_self _ _) (by omega)
  rw [e, show (1 : Int) = ((1 : Nat) : Int) from rfl, (bits_u32 _ 1 hl (by omega)).1, Nat.and_one_is_mod]
  rfl

set_option maxHeartbeats 1000000 in
theorem digits1_seq (n : Nat) (hn : 1 ≤ n) (a : Option Addr) (cap Bx lb : Nat) (l : List Int) (W1 : World) (hb : W1.cell? ⟨Bx, 0, none⟩ = some (.slice a l.length cap)) (hc : l.length ≤ cap) (hm : cap ≤ 9223372036854775807) (hlt : Bx < W1.heap.size)
    (hr : RdI .u32 W1 (.slice a l.length cap) l) (hl : Lim l) (hz : NoZ l) (hs : l.length ≤ 1000000) :
    DownSeq Fence.wide n Try.prog 81 #[.pointer (some ⟨Bx, 0, none⟩)] (blen (nv l)) (fun k (x : Int) => #[.int .i64 k, .int .u32 x]) (RdDg Bx a cap l) lb W1 := by
  intro J Jx hJ hJr hY h0
  have HR := Lib.hid hr; have HL := Lib.hid hl; have HZ := Lib.hid hz
  have hN : blen (nv l) ≤ 32 * l.length := blen_le.2 (by rw [← pow_two]; exact nv_lt hl)
  clear hr hl hz
  refine callsIn_of_wp Try.func81 rfl trivial ?_ rfl
  simp only [Try.ntmps81, List.size_toArray, List.length_cons, List.length_nil, Nat.reduceAdd, Nat.reduceSub, Array.replicate_succ, Array.replicate_zero, List.push_toArray, List.append_toArray, List.nil_append, List.cons_append]
  gi_wp2_with fail
  refine ⟨trivial, (callsIn_wide.2 (length_any _ l _ HR.out HL.out HZ.out hs)).mono ?_⟩
  rintro e w1 ⟨rfl, hx1⟩
  have hj1 := hJ _ _ _ h0 hx1
  have HJ1 := Lib.hid hj1
  clear hj1 h0 hx1
  obtain ⟨N, hNN⟩ : ∃ N, N = blen (nv l) := ⟨_, rfl⟩
  rw [← hNN] at HJ1 hJr hY hN ⊢
  have HNN := Lib.hid hNN; clear hNN
  gi_wp2_with fail
  gi_loopw [3] (fun i wr => (i = .int .i64 (-1) ∧ J 0 wr) ∨ ∃ j : Nat, j < N ∧ i = .int .i64 j ∧ J (j + 1) wr) (fun i _ => (intOf i + 1).toNat)
  case atStart =>
    rcases Nat.eq_zero_or_pos N with h | h
    · subst h; exact .inl ⟨rfl, HJ1.out⟩
    · exact .inr ⟨N - 1, by omega, by go_num, by rw [show N - 1 + 1 = N by omega]; exact HJ1.out⟩
  case round =>
    rcases hrel with ⟨rfl, hj⟩ | ⟨j, hj, rfl, hJj⟩
    · have HJ := Lib.hid hj; clear hj
      gi_wp2
      go_end0
      exact ⟨⟨_, rfl⟩, .inl HJ.out⟩
    · obtain ⟨x, hbx, hcells, hxe⟩ := hJr j wr hj hJj
      obtain ⟨fn, tmps, assign, body, hy, hR⟩ := hY j wr x hj hJj ⟨hbx, hcells, hxe⟩
      have hi : j / 32 < l.length := by omega
      obtain ⟨b, off, rfl, _, hcx⟩ := hcells (j / 32) hi
      have hbit := bit_of l HL.out (j / 32) (j % 32) (by omega) hi
      rw [show 32 * (j / 32) + j % 32 = j by omega] at hbit
      rw [hbit] at hxe
      have hzl := getD_lim HL.out (j / 32)
      obtain ⟨z, hzz⟩ : ∃ z, z = l.getD (j / 32) 0 := ⟨_, rfl⟩
      rw [← hzz] at hcx hxe hzl
      have q1 : (0 : Int) ≤ (j : Int) := by omega
      have q2 : (j : Int) / 32 < (l.length : Int) := by omega
      have q3 : (0 : Int) ≤ (j : Int) / 32 := by omega
      rw [hxe, ← and_one z (j % 32) hzl] at hy
      have HJ := Lib.hid hJj
      clear hJj hcells hzz hbit hxe
      gi_wp2
      refine hR.mono ?_
      rintro e W3 (⟨rfl, hJ3⟩ | ⟨rfl, hJ3⟩)
      · have HJ3 := Lib.hid hJ3; clear hJ3
        gi_wp2
        go_roundw
        case rel =>
          rcases Nat.eq_zero_or_pos j with h | h
          · subst h; exact .inl ⟨rfl, HJ3.out⟩
          · exact .inr ⟨j - 1, by omega, by go_num, by rw [show j - 1 + 1 = j by omega]; exact HJ3.out⟩
        case measure => simp [intOf] <;> omega
      · have HJ3 := Lib.hid hJ3; clear hJ3
        gi_wp2
        refine bodyPost_ret (v := .tuple #[]) ?_ rfl ⟨⟨_, rfl⟩, .inr ⟨j, by rw [← HNN.out]; exact hj, HJ3.out⟩⟩
        first | rfl | (simp only [results, Try.results81]; go_simp)

end Go.Proofs.Ytoicjiiifffciaa
