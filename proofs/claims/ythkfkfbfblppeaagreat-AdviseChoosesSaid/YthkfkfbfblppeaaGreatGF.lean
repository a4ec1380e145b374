/- Texts of this claim, laid together: BigAw BigBi BigIn BigPa BigTp BigPb BigPc BigLw BigTq. Conditions: as each states. -/
import Derived.Test.YthkfkfbfblppeaaGreatGE
import Derived.Shelf.Strings.FuncGrows
/- Walks of awake, same and Long of layer 5's law package. Conditions: slices of limbs. -/
namespace Go.Proofs.YthkfkfbfblppeaaGreat
set_option linter.unusedSimpArgs false
set_option linter.unusedVariables false
open Go.RowKit

theorem decR_go (n q r : Nat) (l : List Nat) (h : n = 10 * q + r) (hr : r < 10) (hn : n ≠ 0) (e : decR q = l) : decR n = r :: l := by
  rw [decR_pos hn, show n % 10 = r by omega, show n / 10 = q by omega, e]
theorem aw_dec : decR 18446744073709551616 = [6, 1, 6, 1, 5, 5, 9, 0, 7, 3, 7, 0, 4, 4, 7, 6, 4, 4, 8, 1] :=
  decR_go 18446744073709551616 1844674407370955161 6 _ (by decide) (by decide) (by decide) (
  decR_go 1844674407370955161 184467440737095516 1 _ (by decide) (by decide) (by decide) (
  decR_go 184467440737095516 18446744073709551 6 _ (by decide) (by decide) (by decide) (
  decR_go 18446744073709551 1844674407370955 1 _ (by decide) (by decide) (by decide) (
  decR_go 1844674407370955 184467440737095 5 _ (by decide) (by decide) (by decide) (
  decR_go 184467440737095 18446744073709 5 _ (by decide) (by decide) (by decide) (
  decR_go 18446744073709 1844674407370 9 _ (by decide) (by decide) (by decide) (
  decR_go 1844674407370 184467440737 0 _ (by decide) (by decide) (by decide) (
  decR_go 184467440737 18446744073 7 _ (by decide) (by decide) (by decide) (
  decR_go 18446744073 1844674407 3 _ (by decide) (by decide) (by decide) (
  decR_go 1844674407 184467440 7 _ (by decide) (by decide) (by decide) (
  decR_go 184467440 18446744 0 _ (by decide) (by decide) (by decide) (
  decR_go 18446744 1844674 4 _ (by decide) (by decide) (by decide) (
  decR_go 1844674 184467 4 _ (by decide) (by decide) (by decide) (
  decR_go 184467 18446 7 _ (by decide) (by decide) (by decide) (
  decR_go 18446 1844 6 _ (by decide) (by decide) (by decide) (
  decR_go 1844 184 4 _ (by decide) (by decide) (by decide) (
  decR_go 184 18 4 _ (by decide) (by decide) (by decide) (
  decR_go 18 1 8 _ (by decide) (by decide) (by decide) (
  decR_go 1 0 1 _ (by decide) (by decide) (by decide) (
  decR_zero))))))))))))))))))))

theorem lim_eq {n : Nat} {l : List Int} (h : nv l = n) (hl : Lim l) (hz : NoZ l) : lim n = l := by rw [← h, lim_nv hl hz]
theorem rdU_new (w : World) (l : List Int) (h : l.length ≤ 1000) : RdI .u32 (w.alloc (.cells (l.map (Value.int .u32)).toArray 206)) (.slice (some ⟨w.heap.size, 0, none⟩) l.length l.length) l :=
  (RowU.new w l (by omega)).rdI

theorem chk2_ok {l1 l2 : List Int} (h1 : l1.length ≤ 512) (z1 : NoZ l1) (h2 : l2.length ≤ 512) (z2 : NoZ l2) : chk2 l1 l2 = 0 := by
  unfold chk2 orE; rw [if_pos (chkE_ok h1 z1), chkE_ok h2 z2]

theorem aw1 : lim 4294967296 = [0, 1] := lim_eq (by decide) (by intro x hx; simp at hx; omega) (by unfold NoZ; decide)
theorem aw2 : lim 4294967295 = [4294967295] := lim_eq (by decide) (by intro x hx; simp at hx; omega) (by unfold NoZ; decide)
theorem aw3 : lim 1000000007 = [1000000007] := lim_eq (by decide) (by intro x hx; simp at hx; omega) (by unfold NoZ; decide)
theorem aw4 : lim 12 = [12] := lim_eq (by decide) (by intro x hx; simp at hx; omega) (by unfold NoZ; decide)
theorem aw5 : lim 48 = [48] := lim_eq (by decide) (by intro x hx; simp at hx; omega) (by unfold NoZ; decide)
theorem aw6 : lim 36 = [36] := lim_eq (by decide) (by intro x hx; simp at hx; omega) (by unfold NoZ; decide)
theorem aw7 : lim 18446744065119617025 = [1, 4294967294] := lim_eq (by decide) (by intro x hx; simp at hx; omega) (by unfold NoZ; decide)
theorem aw8 : lim 83333333 = [83333333] := lim_eq (by decide) (by intro x hx; simp at hx; omega) (by unfold NoZ; decide)
theorem aw9 : lim 11 = [11] := lim_eq (by decide) (by intro x hx; simp at hx; omega) (by unfold NoZ; decide)

theorem aw_mul : mulS [4294967295] [4294967295] = ([1, 4294967294], 0) := by
  unfold mulS
  rw [opS_ok (chk2_ok (by decide) (by unfold NoZ; decide) (by decide) (by unfold NoZ; decide)), show nv [4294967295] * nv [4294967295] = 18446744065119617025 by decide, fitL_ok (len_max.1 (by rw [aw7]; decide)), aw7]
theorem aw_div : divS [1000000007] [12] = ([83333333], [11], 0) := by
  unfold divS
  rw [if_pos (chk2_ok (by decide) (by unfold NoZ; decide) (by decide) (by unfold NoZ; decide)), if_neg (by decide), show nv [1000000007] / nv [12] = 83333333 by decide, show nv [1000000007] % nv [12] = 11 by decide, aw8, aw9]
theorem aw_gcd : gcdS [48] [36] = ([12], 0) := by
  unfold gcdS
  rw [opS_ok (chk2_ok (by decide) (by unfold NoZ; decide) (by decide) (by unfold NoZ; decide)), show Nat.gcd (nv [48]) (nv [36]) = 12 by decide, aw4]
theorem aw_text : textS [0, 0, 1] = (⟨#[49, 56, 52, 52, 54, 55, 52, 52, 48, 55, 51, 55, 48, 57, 53, 53, 49, 54, 49, 54]⟩, 0) := by
  unfold textS
  rw [if_pos (chkE_ok (by decide) (by unfold NoZ; decide)), show nv [0, 0, 1] = 18446744073709551616 by decide]
  unfold decT
  rw [if_neg (by decide), aw_dec]
  rfl

theorem from_lit (n : Nat) (k : Int) (l : List Int) (w : World) (hn : n < 18446744073709551616) (hk : k = n) (e : lim n = l) :
    Calls Tryz.prog 185 #[.int .u64 k] w fun e w' => (∃ v, e = .returned v ∧ NewV w w' v l) ∧ Ext w w' := by
  subst hk; rw [← e]; exact from_any n w hn
theorem eq_lit (v1 v2 : Value) (l : List Int) (w : World) (h1 : RdI .u32 w v1 l) (h2 : RdI .u32 w v2 l) : Calls Tryz.prog 101 #[v1, v2] w fun e w' => e = .returned (.bool true) ∧ Ext w w' := by
  have := equalNat_any v1 v2 l l w h1 h2
  rwa [decide_eq_true rfl] at this

theorem lims (l : List Int) (h : l.all (fun x => decide (0 ≤ x) && decide (x < 4294967296)) = true) : Lim l := by
  intro x hx
  have := List.all_eq_true.1 h x hx
  simpa using this

end Go.Proofs.YthkfkfbfblppeaaGreat

/- Walk of Bits of layer 5. Conditions: a slice of limbs. -/
namespace Go.Proofs.YthkfkfbfblppeaaGreat
set_option linter.unusedSimpArgs false
set_option linter.unusedVariables false
open Go.RowKit

/-- What Bits returns. -/
def bitsS (l : List Int) : Int × Int := if chkE l = 0 then ((blen (nv l) : Int), 0) else (0, chkE l)

end Go.Proofs.YthkfkfbfblppeaaGreat

/- Walk of Int of layer 5. Conditions: a slice of limbs. -/
namespace Go.Proofs.YthkfkfbfblppeaaGreat
set_option linter.unusedSimpArgs false
set_option linter.unusedVariables false
open Go.RowKit Go.Shelf
attribute [local go_sem] Oper.semAt_some

/-- What Int returns. -/
def intS (l : List Int) : Int × Int := if chkE l = 0 then (if 2 < l.length then (0, 7) else ((nv l : Int), 0)) else (0, chkE l)

theorem shl_or64 (r : Nat) (x : Int) (hr : r < 4294967296) (hx : 0 ≤ x ∧ x < 4294967296) : bits .or .u64 ((r : Int) * 4294967296) x = ((x.toNat + 4294967296 * r : Nat) : Int) := by
  obtain ⟨a, rfl⟩ := Int.eq_ofNat_of_zero_le hx.1
  rw [Int.toNat_natCast, show ((r : Int) * 4294967296) = ((r * 4294967296 : Nat) : Int) by omega, (bits_u64 (r * 4294967296) a (by omega) (by omega)).2.1]
  rw [or_add (r * 4294967296) a 32 (by omega) (by omega)]
  omega

def IntAx (w3 : World) (l : List Int) (H k : Nat) (x : Int) (a1 : Act) (W : World) : Prop :=
  k < l.length ∧ Blk W H #[.int .u64 (nv (l.drop (k + 1)))] 211 ∧ Fr (· = H) w3 W ∧ x = l.getD k 0 ∧ w3.heap.size + 1 < W.heap.size ∧ ∃ t0 t1 t3 t4 t5 t7 t8 t9 t10 t11 t12 t13 t14 t15 t16 t17 t18 t19 t20 t21 t22 t23 t24 t25 t26 : Value,
    a1 = { tmps := #[t0, t1, .pointer (some ⟨H, 0, none⟩), t3, t4, t5, .int .u32 x, t7, t8, t9, t10, t11, t12, t13, t14, t15, t16, t17, t18, t19, t20, t21, t22, t23, t24, t25, t26], defers := [] }

end Go.Proofs.YthkfkfbfblppeaaGreat

/- Walks towards Parse of layer 5: its closure. Conditions: none. -/
namespace Go.Proofs.YthkfkfbfblppeaaGreat
set_option linter.unusedSimpArgs false
set_option linter.unusedVariables false
open Go.RowKit

/-- No digit. -/
def noDig (c : Int) : Bool := decide (c < 48) || decide (57 < c)

end Go.Proofs.YthkfkfbfblppeaaGreat

/- Plain laws of decimal texts: the value of the digits, and back. Conditions: none. -/
namespace Go.Proofs.YthkfkfbfblppeaaGreat
set_option linter.unusedSimpArgs false
set_option linter.unusedVariables false

/-- The value of digits, the last one first. -/
def horR : List Nat → Nat
  | [] => 0
  | d :: l => d + 10 * horR l

theorem horR_decR : ∀ n : Nat, horR (decR n) = n := by
  intro n
  induction n using Nat.strongRecOn with
  | ind n ih =>
    by_cases h : n = 0
    · subst h; rw [decR_zero]; rfl
    · rw [decR_pos h]
      show n % 10 + 10 * horR (decR (n / 10)) = n
      rw [ih (n / 10) (by omega)]
      omega

theorem decR_lt : ∀ (n : Nat), ∀ d ∈ decR n, d < 10 := by
  intro n
  induction n using Nat.strongRecOn with
  | ind n ih =>
    by_cases h : n = 0
    · subst h; rw [decR_zero]; intro d hd; cases hd
    · rw [decR_pos h]
      intro d hd
      rcases List.mem_cons.1 hd with rfl | hd
      · omega
      · exact ih (n / 10) (by omega) d hd

/-- Digits whose first one (the last of the list) is not 0 are those of their value. -/
theorem decR_horR : ∀ (l : List Nat), (∀ d ∈ l, d < 10) → l.getLast? ≠ some 0 → decR (horR l) = l := by
  intro l
  induction l with
  | nil => intro _ _; exact decR_zero
  | cons d l ih =>
    intro h1 h2
    have hd := h1 d (by simp)
    have hz : horR (d :: l) ≠ 0 := by
      show d + 10 * horR l ≠ 0
      cases l with
      | nil =>
        intro e
        apply h2
        have : d = 0 := by omega
        subst this; rfl
      | cons d2 l2 =>
        intro e
        have e2 : horR (d2 :: l2) = 0 := by omega
        have := ih (fun x hx => h1 x (List.mem_cons_of_mem _ hx)) (by simpa using h2)
        rw [e2, decR_zero] at this
        cases this
    rw [decR_pos hz, show horR (d :: l) % 10 = d by show (d + 10 * horR l) % 10 = d; omega, show horR (d :: l) / 10 = horR l by show (d + 10 * horR l) / 10 = horR l; omega]
    congr 1
    cases l with
    | nil => exact decR_zero
    | cons d2 l2 => exact ih (fun x hx => h1 x (List.mem_cons_of_mem _ hx)) (by simpa using h2)

/-- Horner's sum from the front. -/
theorem horR_foldl : ∀ (l : List Nat), l.reverse.foldl (fun n d => 10 * n + d) 0 = horR l := by
  intro l
  induction l with
  | nil => rfl
  | cons d l ih =>
    rw [List.reverse_cons, List.foldl_append, ih]
    show 10 * horR l + d = d + 10 * horR l
    omega

end Go.Proofs.YthkfkfbfblppeaaGreat

/- Walks of strings.ContainsFunc, IndexFunc and indexFunc over Parse's closure; what they say of a text. Conditions: none. -/
namespace Go.Proofs.YthkfkfbfblppeaaGreat
set_option linter.unusedSimpArgs false
set_option linter.unusedVariables false
open Go.RowKit Go.Shelf Go.Proofs

def nd (r : Nat) : Bool := noDig (r : Int)

/-- The bytes of a text. -/
def byt (s : ByteArray) : List Nat := s.data.toList.map UInt8.toNat
theorem byt_len (s : ByteArray) : (byt s).length = s.size := by simp [byt]
theorem byt_get (s : ByteArray) (i : Nat) (h : i < s.size) : (byt s)[i]'(by rw [byt_len]; exact h) = (s[i]'h).toNat := by
  simp [byt]; rfl
theorem byt_lt (s : ByteArray) : ∀ b ∈ byt s, b < 256 := by
  intro b hb
  obtain ⟨x, _, rfl⟩ := List.mem_map.1 hb
  exact x.toNat_lt

def isDig (b : Nat) : Bool := decide (48 ≤ b) && decide (b ≤ 57)
theorem nd_of_dig {b : Nat} (h : isDig b = true) : nd b = false := by
  unfold isDig at h; unfold nd noDig
  simp at h ⊢
  omega
theorem nd_of_not {b : Nat} (h : isDig b = false) : nd b = true := by
  unfold isDig at h; unfold nd noDig
  simp at h ⊢
  omega

theorem idx_digits (s : ByteArray) : ∀ (f pos : Nat), s.size ≤ pos + f → (decide (0 ≤ Lib.idxFuncFrom nd true s f pos)) = !(((byt s).drop pos).all isDig) := by
  intro f
  induction f with
  | zero =>
    intro pos h
    rw [List.drop_of_length_le (by rw [byt_len]; omega)]
    rfl
  | succ f ih =>
    intro pos h
    by_cases hp : pos < s.size
    · have hd : (byt s).drop pos = (s[pos]'hp).toNat :: (byt s).drop (pos + 1) := by
        rw [List.drop_eq_getElem_cons (by rw [byt_len]; exact hp), byt_get s pos hp]
      unfold Lib.idxFuncFrom
      rw [if_pos hp, hd, List.all_cons]
      cases hb : isDig (s[pos]'hp).toNat with
      | true =>
        have hlt : (s[pos]'hp).toNat < 128 := by unfold isDig at hb; simp at hb; omega
        rw [decode_ascii s pos hp hlt]
        simp only [nd_of_dig hb, Bool.false_eq_true, if_false, Bool.true_and]
        exact ih (pos + 1) (by omega)
      | false =>
        have hn : nd (Utf8.decode s pos).1 = true := by
          rcases Nat.lt_or_ge (s[pos]'hp).toNat 128 with hlt | hge
          · rw [decode_ascii s pos hp hlt]; exact nd_of_not hb
          · have := (decode_high s pos hp hge).1
            exact nd_of_not (by unfold isDig; simp; omega)
        rw [hn, if_pos rfl]
        simp
    · rw [Lib.idxFuncFrom_end _ _ _ _ _ hp, List.drop_of_length_le (by rw [byt_len]; omega)]
      rfl

theorem idx_all (s : ByteArray) : decide (0 ≤ Lib.idxFunc nd true s) = !((byt s).all isDig) := by
  have := idx_digits s s.size 0 (by omega)
  rwa [List.drop_zero] at this

/-- The value of decimal digits. -/
def horF (l : List Nat) : Nat := l.foldl (fun n b => 10 * n + (b - 48)) 0
theorem horF_snoc (l : List Nat) (b : Nat) : horF (l ++ [b]) = 10 * horF l + (b - 48) := by unfold horF; rw [List.foldl_append]; rfl
theorem horF_le (l r : List Nat) : horF l ≤ horF (l ++ r) := by
  induction r generalizing l with
  | nil => rw [List.append_nil]; exact Nat.le_refl _
  | cons b r ih =>
    have h1 := ih (l ++ [b])
    rw [List.append_assoc] at h1
    rw [horF_snoc] at h1
    exact Nat.le_trans (by omega) h1
theorem horF_take_le (l : List Nat) (k : Nat) : horF (l.take k) ≤ horF l := by
  conv => rhs; rw [← List.take_append_drop k l]
  exact horF_le _ _

/-- What is no number's text. -/
def badT (s : ByteArray) : Bool := decide (s.size = 0) || (decide ((byt s).head? = some 48) && decide (1 < s.size)) || !((byt s).all isDig)
/-- What Parse returns. -/
def parseS (s : ByteArray) : List Int × Int := if 4096 < s.size then ([], 4) else if badT s = true then ([], 2) else fitL (horF (byt s))

end Go.Proofs.YthkfkfbfblppeaaGreat

/- Walk of Parse of layer 5. Conditions: none. -/
namespace Go.Proofs.YthkfkfbfblppeaaGreat
set_option linter.unusedSimpArgs false
set_option linter.unusedVariables false
open Go.RowKit

theorem ten_arith (P tk r q c x n m : Nat) (h : tk + P * c = 10 * m + n) (h4 : r + 4294967296 * q = c + 10 * x) : tk + P * r + P * (4294967296 * q) = 10 * (m + P * x) + n := by
  have h5 : P * r + P * (4294967296 * q) = P * (r + 4294967296 * q) := by rw [Nat.mul_add]
  rw [h4, Nat.mul_add] at h5
  have h6 : 10 * (P * x) = P * (10 * x) := by rw [Nat.mul_left_comm]
  rw [Nat.mul_add, h6]
  omega

theorem ten_div (c x : Int) (h0 : 0 ≤ c) (h1 : 0 ≤ x) : ((c + x * 10) % 4294967296).toNat + 4294967296 * ((c + x * 10) / 4294967296).toNat = c.toNat + 10 * x.toNat := by
  obtain ⟨a, rfl⟩ := Int.eq_ofNat_of_zero_le h0
  obtain ⟨b, rfl⟩ := Int.eq_ofNat_of_zero_le h1
  have e1 : ((a : Int) + b * 10) % 4294967296 = (((a + b * 10) % 4294967296 : Nat) : Int) := by omega
  have e2 : ((a : Int) + b * 10) / 4294967296 = (((a + b * 10) / 4294967296 : Nat) : Int) := by omega
  rw [e1, e2]
  simp only [Int.toNat_natCast]
  omega

/-- One limb of '10 a + d'. -/
theorem ten_step {lj l : List Int} {k : Nat} {c x : Int} {n : Nat} (hl : Lim l) (hlen : lj.length = l.length) (hk : k < l.length) (hx : x = l.getD k 0) (hc : 0 ≤ c ∧ c ≤ 9) (h : nv (lj.take k) + 4294967296 ^ k * c.toNat = 10 * nv (l.take k) + n) :
    nv ((lj.set k ((c + x * 10) % 4294967296)).take (k + 1)) + 4294967296 ^ (k + 1) * ((c + x * 10) / 4294967296).toNat = 10 * nv (l.take (k + 1)) + n := by
  have hxl := getD_lim hl k
  rw [← hx] at hxl
  have h4 := ten_div c x hc.1 hxl.1
  generalize ((c + x * 10) / 4294967296) = q at *
  generalize ((c + x * 10) % 4294967296) = r at *
  have h1 := nv_takeD (l := lj.set k r) (k := k) (by rw [List.length_set]; omega)
  have h2 : (lj.set k r).getD k 0 = r := by
    rw [List.getD_eq_getElem?_getD, List.getElem?_set_self (by omega), Option.getD_some]
  have h3 : (lj.set k r).take k = lj.take k := List.take_set_of_le (Nat.le_refl _)
  rw [h1, h2, h3, nv_takeD hk, ← hx, Nat.pow_succ, Nat.mul_assoc]
  exact ten_arith _ _ _ _ _ _ _ _ h h4

theorem noZ_ten {l lj : List Int} {d : Nat} (hl : Lim l) (hz : NoZ l) (hj : Lim lj) (hlen : lj.length = l.length) (h : nv lj = 10 * nv l + d) : NoZ lj := by
  by_cases h0 : l = []
  · subst h0
    rw [List.length_eq_zero_iff.1 hlen]; simp [NoZ]
  · refine noZ_of_ge hj ?_
    have := nv_ge hl hz h0
    rw [hlen]; omega

theorem good_text {s : ByteArray} (hb : badT s = false) : s.toList.isEmpty = false ∧ 0 < s.size ∧ (byt s).all isDig = true ∧ (∀ h : 0 < s.size, (s[0]'h).toNat = 48 → s.size ≤ 1) := by
  unfold badT at hb
  simp only [Bool.or_eq_false_iff, Bool.and_eq_false_iff, Bool.not_eq_false', decide_eq_false_iff_not] at hb
  obtain ⟨⟨h1, h2⟩, h3⟩ := hb
  have h0 : 0 < s.size := by omega
  refine ⟨?_, h0, h3, fun h e => ?_⟩
  · rw [ByteArray.toList_eq]
    have : s.data.toList.length = s.size := by simp
    cases hd : s.data.toList with
    | nil => rw [hd] at this; simp at this; omega
    | cons a t => rfl
  · rcases h2 with h2 | h2
    · exfalso; apply h2
      rw [List.head?_eq_getElem?, List.getElem?_eq_getElem (by rw [byt_len]; exact h0), byt_get s 0 h0, e]
    · omega

theorem OwB.row {w : World} {B : Nat} {a : Option Addr} {n c : Nat} {l : List Int} {j : Nat} (h : OwB w B (.slice a n c) l) (hj : j < l.length) : ∃ g, a = some ⟨g, 0, none⟩ ∧ n = l.length ∧ B ≤ g ∧ RowU w g c l := by
  obtain ⟨o, h1, h2⟩ := h
  rcases h1 with ⟨_, h0, a, ha, he⟩ | ⟨g, cap, ho, he, hr⟩
  · subst h0; simp at hj
  · injection he with e1 e2 e3
    subst e1; subst e2; subst e3
    exact ⟨g, rfl, rfl, h2 g ho, hr⟩

theorem dig_at {s : ByteArray} (h : (byt s).all isDig = true) {k : Nat} (hk : k < s.size) : ∃ d : Nat, d ≤ 9 ∧ (byt s).getD k 0 = 48 + d ∧ horF ((byt s).take (k + 1)) = 10 * horF ((byt s).take k) + d := by
  have hk' : k < (byt s).length := by rw [byt_len]; exact hk
  have h1 := List.all_eq_true.1 h _ (List.getElem_mem hk')
  unfold isDig at h1
  simp only [Bool.and_eq_true, decide_eq_true_eq] at h1
  refine ⟨(byt s)[k] - 48, by omega, ?_, ?_⟩
  · rw [List.getD_eq_getElem?_getD, List.getElem?_eq_getElem hk', Option.getD_some]; omega
  · rw [List.take_succ_eq_append_getElem hk', horF_snoc]

end Go.Proofs.YthkfkfbfblppeaaGreat

/- Plain laws: what the operations of layer 5 return on valid numbers. Conditions: as each states. -/
namespace Go.Proofs.YthkfkfbfblppeaaGreat
set_option linter.unusedSimpArgs false
set_option linter.unusedVariables false

theorem chkE_limB {n : Nat} (h : n < MAXN) : (lim n).length ≤ 512 ∧ NoZ (lim n) := ⟨len_max.2 h, lim_noZ n⟩
theorem mulS_ok {l1 l2 : List Int} (h1 : l1.length ≤ 512) (z1 : NoZ l1) (h2 : l2.length ≤ 512) (z2 : NoZ l2) (hm : nv l1 * nv l2 < MAXN) : mulS l1 l2 = (lim (nv l1 * nv l2), 0) := by
  unfold mulS; rw [opS_ok (chk2_ok h1 z1 h2 z2), fitL_ok hm]
theorem addS_ok {l1 l2 : List Int} (h1 : l1.length ≤ 512) (z1 : NoZ l1) (h2 : l2.length ≤ 512) (z2 : NoZ l2) (hm : nv l1 + nv l2 < MAXN) : addS l1 l2 = (lim (nv l1 + nv l2), 0) := by
  unfold addS; rw [opS_ok (chk2_ok h1 z1 h2 z2), fitL_ok hm]
theorem cmpS_ok {l1 l2 : List Int} (h1 : l1.length ≤ 512) (z1 : NoZ l1) (h2 : l2.length ≤ 512) (z2 : NoZ l2) : cmpS l1 l2 = (cmpN (nv l1) (nv l2), 0) := by
  unfold cmpS; rw [if_pos (chk2_ok h1 z1 h2 z2)]
theorem divS_ok {l1 l2 : List Int} (h1 : l1.length ≤ 512) (z1 : NoZ l1) (h2 : l2.length ≤ 512) (z2 : NoZ l2) (h0 : nv l2 ≠ 0) : divS l1 l2 = (lim (nv l1 / nv l2), lim (nv l1 % nv l2), 0) := by
  unfold divS; rw [if_pos (chk2_ok h1 z1 h2 z2), if_neg h0]
theorem subS_ok {l1 l2 : List Int} (h1 : l1.length ≤ 512) (z1 : NoZ l1) (h2 : l2.length ≤ 512) (z2 : NoZ l2) (h0 : nv l2 ≤ nv l1) : subS l1 l2 = (lim (nv l1 - nv l2), 0) := by
  unfold subS; rw [opS_ok (chk2_ok h1 z1 h2 z2), if_neg (by omega)]
theorem divS_err {l1 l2 : List Int} (h : ¬ (chk2 l1 l2 = 0 ∧ nv l2 ≠ 0)) : ∃ c, c ≠ 0 ∧ divS l1 l2 = ([], [], c) := by
  unfold divS
  by_cases h1 : chk2 l1 l2 = 0
  · rw [if_pos h1, if_pos (Classical.byContradiction fun h2 => h ⟨h1, h2⟩)]; exact ⟨14, by decide, rfl⟩
  · rw [if_neg h1]; exact ⟨_, h1, rfl⟩
theorem small_max {l1 l2 : List Int} (hl1 : Lim l1) (hl2 : Lim l2) (h1 : l1.length ≤ 20) (h2 : l2.length ≤ 20) : nv l1 * nv l2 < 4294967296 ^ 40 := by
  have e1 : nv l1 < 4294967296 ^ 20 := Nat.lt_of_lt_of_le (nv_lt hl1) (pow_le h1)
  have e2 : nv l2 < 4294967296 ^ 20 := Nat.lt_of_lt_of_le (nv_lt hl2) (pow_le h2)
  rw [show 40 = 20 + 20 from rfl, Nat.pow_add]
  exact Nat.mul_lt_mul'' e1 e2
theorem pow_max {n k : Nat} (h : n < 4294967296 ^ k) (hk : k ≤ 512) : n < MAXN := by unfold MAXN; exact Nat.lt_of_lt_of_le h (pow_le hk)

end Go.Proofs.YthkfkfbfblppeaaGreat

/- Plain laws: the text of a number is read back, and the text of what was read is the text. Conditions: as each states. -/
namespace Go.Proofs.YthkfkfbfblppeaaGreat
set_option linter.unusedSimpArgs false
set_option linter.unusedVariables false

theorem byt_inj {s t : ByteArray} (h : byt s = byt t) : s = t := by
  have h1 : s.data.toList = t.data.toList := by
    unfold byt at h
    exact (List.map_inj_right (fun x y => UInt8.toNat_inj.1)).1 h
  have h2 : s.data = t.data := by
    rw [← Array.toArray_toList (xs := s.data), h1, Array.toArray_toList]
  cases s; cases t; simp_all

theorem byt_strOf (L : List Nat) (h : ∀ d ∈ L, d < 10) : byt (strOfNums (L.map (fun d => ((48 + d : Nat) : Int)))) = L.map (fun d => 48 + d) := by
  unfold byt
  rw [strOfNums_data, List.map_map, List.map_map]
  apply List.map_congr_left
  intro d hd
  have := h d hd
  simp
  omega

theorem decR_last (n : Nat) : (decR n).getLast? ≠ some 0 := by
  induction n using Nat.strongRecOn with
  | ind n ih =>
    by_cases h : n = 0
    · subst h; rw [decR_zero]; simp
    · rw [decR_pos h]
      by_cases h2 : n / 10 = 0
      · rw [h2, decR_zero]
        simp
        omega
      · have h3 := ih (n / 10) (by omega)
        have h4 : decR (n / 10) ≠ [] := by rw [decR_pos h2]; simp
        rw [List.getLast?_cons]
        cases h5 : (decR (n / 10)).getLast? with
        | none => exact absurd (List.getLast?_eq_none_iff.1 h5) h4
        | some x => rw [h5] at h3; simpa using h3

theorem byt_decT {n : Nat} (h : n ≠ 0) : byt (decT n) = ((decR n).reverse).map (fun d => 48 + d) := by
  unfold decT
  rw [if_neg h, ← List.map_reverse, byt_strOf]
  intro d hd
  exact decR_lt n d (List.mem_reverse.1 hd)
theorem byt_dec0 : byt (decT 0) = [48] := rfl

theorem horF_map (L : List Nat) : horF (L.reverse.map (fun d => 48 + d)) = horR L := by
  unfold horF
  rw [List.foldl_map]
  have : (fun (x y : Nat) => 10 * x + (48 + y - 48)) = (fun n d => 10 * n + d) := by
    funext x y
    omega
  rw [this, horR_foldl]

theorem horF_decT (n : Nat) : horF (byt (decT n)) = n := by
  by_cases h : n = 0
  · subst h; rw [byt_dec0]; rfl
  · rw [byt_decT h, horF_map, horR_decR]

theorem good_decT (n : Nat) : badT (decT n) = false := by
  unfold badT
  have hsz := byt_len (decT n)
  by_cases h : n = 0
  · subst h
    rw [byt_dec0] at hsz ⊢
    rw [← hsz]
    rfl
  · have h1 := byt_decT h
    have hne : decR n ≠ [] := by rw [decR_pos h]; simp
    have hl : 0 < (decR n).length := List.length_pos_iff.2 hne
    rw [h1] at hsz ⊢
    rw [List.length_map, List.length_reverse] at hsz
    have hhead : ((decR n).reverse.map (fun d => 48 + d)).head? ≠ some 48 := by
      rw [List.head?_map, List.head?_reverse]
      have := decR_last n
      cases hq : (decR n).getLast? with
      | none => simp
      | some x =>
        rw [hq] at this
        simp at this ⊢
        exact this
    have hall : ((decR n).reverse.map (fun d => 48 + d)).all isDig = true := by
      rw [List.all_eq_true]
      intro b hb
      obtain ⟨d, hd, rfl⟩ := List.mem_map.1 hb
      have := decR_lt n d (List.mem_reverse.1 hd)
      unfold isDig; simp; omega
    rw [hall]
    have h2 : ¬ (decT n).size = 0 := by omega
    simp [h2]
    exact fun e => absurd e (decR_last n)

/-- Parse inverts Text. -/
theorem parse_text {n : Nat} (h1 : n < MAXN) (h2 : (decT n).size ≤ 4096) : parseS (decT n) = (lim n, 0) := by
  unfold parseS
  rw [if_neg (by omega), good_decT, horF_decT, if_neg (by decide), fitL_ok h1]

theorem decT_size (n : Nat) : (decT n).size ≤ blen n + 1 := by
  rw [← byt_len]
  by_cases h : n = 0
  · subst h; rw [byt_dec0]; simp
  · rw [byt_decT h, List.length_map, List.length_reverse]
    have := decR_len n
    omega

/-- Text inverts Parse. -/
theorem text_parse {s : ByteArray} (hb : badT s = false) : decT (horF (byt s)) = s := by
  unfold badT at hb
  simp only [Bool.or_eq_false_iff, Bool.and_eq_false_iff, Bool.not_eq_false', decide_eq_false_iff_not] at hb
  obtain ⟨⟨h1, h2⟩, h3⟩ := hb
  have hlen := byt_len s
  apply byt_inj
  have hd : ∀ b ∈ byt s, 48 ≤ b ∧ b ≤ 57 := by
    intro b hb
    have := List.all_eq_true.1 h3 b hb
    unfold isDig at this
    simpa using this
  obtain ⟨L, hL⟩ : ∃ L, L = ((byt s).map (fun b => b - 48)).reverse := ⟨_, rfl⟩
  have e1 : byt s = L.reverse.map (fun d => 48 + d) := by
    rw [hL, List.reverse_reverse, List.map_map]
    conv => lhs; rw [← List.map_id (byt s)]
    apply List.map_congr_left
    intro b hb
    have := hd b hb
    simp; omega
  have hLd : ∀ d ∈ L, d < 10 := by
    intro d hd'
    rw [hL] at hd'
    obtain ⟨b, hb, rfl⟩ := List.mem_map.1 (List.mem_reverse.1 hd')
    have := hd b hb
    omega
  have hLne : L ≠ [] := by
    intro e
    rw [e] at e1
    rw [e1] at hlen
    simp at hlen
    omega
  by_cases hz : L.getLast? = some 0
  · have hh : (byt s).head? = some 48 := by
      rw [e1, List.head?_map, List.head?_reverse, hz]; rfl
    have hs1 : s.size = 1 := by
      rcases h2 with h2 | h2
      · exact absurd hh h2
      · omega
    have hb1 : byt s = [48] := by
      match hq : byt s, hlen with
      | [], hl => rw [hs1] at hl; cases hl
      | [a], _ => rw [hq] at hh; simp at hh; rw [hh]
      | a :: b :: t, hl => rw [hs1] at hl; simp at hl
    rw [hb1]
    rfl
  · have h4 := decR_horR L hLd hz
    have h5 : horR L ≠ 0 := by
      intro e
      rw [e, decR_zero] at h4
      exact hLne h4.symm
    rw [e1, horF_map, byt_decT h5, h4]

theorem blen_one {n : Nat} (h : n ≠ 0) : n / 2 ^ (blen n - 1) = 1 := by
  unfold blen
  rw [if_neg h, Nat.add_sub_cancel]
  have h1 := Nat.log2_self_le h
  have h2 : n < 2 ^ (n.log2 + 1) := Nat.lt_log2_self
  rw [Nat.pow_succ] at h2
  have h3 : 0 < 2 ^ n.log2 := Nat.pow_pos (by omega)
  apply Nat.le_antisymm
  · have : n / 2 ^ n.log2 < 2 := (Nat.div_lt_iff_lt_mul h3).2 (by omega)
    omega
  · exact (Nat.le_div_iff_mul_le h3).2 (by omega)

/-- What Parse returns, in two cases. -/
theorem parse_cases (s : ByteArray) : (∃ n, n < MAXN ∧ parseS s = (lim n, 0) ∧ decT n = s) ∨ (∃ c, c ≠ 0 ∧ parseS s = ([], c)) := by
  unfold parseS
  by_cases h1 : 4096 < s.size
  · right; rw [if_pos h1]; exact ⟨4, by decide, rfl⟩
  · rw [if_neg h1]
    cases hb : badT s with
    | true => right; rw [if_pos rfl]; exact ⟨2, by decide, rfl⟩
    | false =>
      rw [if_neg (by decide)]
      by_cases h2 : horF (byt s) < MAXN
      · left; exact ⟨_, h2, fitL_ok h2, text_parse hb⟩
      · right; exact ⟨4, by decide, fitL_long h2⟩

end Go.Proofs.YthkfkfbfblppeaaGreat
