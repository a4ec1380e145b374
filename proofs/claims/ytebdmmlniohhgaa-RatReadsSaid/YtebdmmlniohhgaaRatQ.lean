/- Plain laws: rational numbers as layer 6 writes them, beside Lean's own rational numbers. Conditions: as each states. -/
import Derived.Test.YtebdmmlniohhgaaGF
namespace Go.Proofs.Ytebdmmlniohhgaa
set_option linter.unusedSimpArgs false
set_option linter.unusedVariables false

/-- What an api.Rat holds. -/
structure RR where
  neg : Bool
  num : List Int
  den : List Int
deriving DecidableEq

def zR : RR := ⟨false, [], []⟩
def LimR (r : RR) : Prop := Lim r.num ∧ Lim r.den

/-- What Check returns. -/
def chkR (r : RR) : Int :=
  if 128 < r.num.length ∨ 128 < r.den.length then 4
  else if chkE r.num ≠ 0 ∨ chkE r.den ≠ 0 ∨ r.den = [1] ∨ (r.num = [] ∧ (r.neg = true ∨ r.den ≠ [])) then 2
  else if r.den ≠ [] ∧ Nat.gcd (nv r.num) (nv r.den) ≠ 1 then 2
  else 0

/-- A denominator's value. -/
def dnv (l : List Int) : Nat := if l = [] then 1 else nv l
/-- A natural number with a sign. -/
def sg (b : Bool) (n : Nat) : Int := if b = true then -(n : Int) else n
theorem sg_abs (b : Bool) (n : Nat) : (sg b n).natAbs = n := by unfold sg; split <;> omega
theorem sg_neg {b : Bool} {n : Nat} (h : n ≠ 0) : decide (sg b n < 0) = b := by
  unfold sg
  cases b
  · simp
  · simp; omega

/-- The number. -/
def qv (r : RR) : Rat := mkRat (sg r.neg (nv r.num)) (dnv r.den)
/-- How a number is written. -/
def rep (q : Rat) : RR := ⟨decide (q.num < 0), lim q.num.natAbs, if q.den = 1 then [] else lim q.den⟩

theorem limR_rep (q : Rat) : LimR (rep q) := by
  refine ⟨lim_lim _, ?_⟩
  unfold rep
  split
  · intro x hx; cases hx
  · exact lim_lim _
theorem rep_zero : rep 0 = zR := rfl

theorem chkR_0 {r : RR} (hl : LimR r) (h : chkR r = 0) : r.num.length ≤ 128 ∧ r.den.length ≤ 128 ∧ NoZ r.num ∧ NoZ r.den ∧ r.den ≠ [1] ∧ (r.num = [] → r.neg = false ∧ r.den = []) ∧ (r.den ≠ [] → Nat.gcd (nv r.num) (nv r.den) = 1) := by
  unfold chkR at h
  by_cases h1 : 128 < r.num.length ∨ 128 < r.den.length
  · rw [if_pos h1] at h; exact absurd h (by decide)
  · rw [if_neg h1] at h
    by_cases h2 : chkE r.num ≠ 0 ∨ chkE r.den ≠ 0 ∨ r.den = [1] ∨ (r.num = [] ∧ (r.neg = true ∨ r.den ≠ []))
    · rw [if_pos h2] at h; exact absurd h (by decide)
    · rw [if_neg h2] at h
      by_cases h3 : r.den ≠ [] ∧ Nat.gcd (nv r.num) (nv r.den) ≠ 1
      · rw [if_pos h3] at h; exact absurd h (by decide)
      · have a1 : chkE r.num = 0 := Classical.byContradiction fun e => h2 (.inl e)
        have a2 : chkE r.den = 0 := Classical.byContradiction fun e => h2 (.inr (.inl e))
        refine ⟨by omega, by omega, (chkE_0 a1).2, (chkE_0 a2).2, fun e => h2 (.inr (.inr (.inl e))), fun e => ⟨?_, ?_⟩, fun e => Classical.byContradiction fun g => h3 ⟨e, g⟩⟩
        · cases hb : r.neg
          · rfl
          · exact absurd (.inr (.inr (.inr ⟨e, .inl hb⟩))) h2
        · exact Classical.byContradiction fun g => h2 (.inr (.inr (.inr ⟨e, .inr g⟩)))

theorem nv_ne {l : List Int} (hl : Lim l) (hz : NoZ l) (h : l ≠ []) : nv l ≠ 0 := fun e => h (List.length_eq_zero_iff.1 ((nv_zero_iff hl hz).1 e))

/-- A valid number is written as Lean's own says. -/
theorem valid_rep {r : RR} (hl : LimR r) (h : chkR r = 0) : (qv r).num = sg r.neg (nv r.num) ∧ (qv r).den = dnv r.den ∧ rep (qv r) = r := by
  obtain ⟨h1, h2, h3, h4, h5, h6, h7⟩ := chkR_0 hl h
  have hd : dnv r.den ≠ 0 := by
    unfold dnv
    split
    · decide
    · rename_i hne; exact nv_ne hl.2 h4 hne
  have hg : (sg r.neg (nv r.num)).natAbs.Coprime (dnv r.den) := by
    rw [sg_abs]
    unfold dnv
    split
    · exact Nat.coprime_one_right _
    · rename_i hne; exact h7 hne
  have e : qv r = ⟨sg r.neg (nv r.num), dnv r.den, hd, hg⟩ := by
    unfold qv; rw [Rat.mk_eq_mkRat]
  rw [e]
  refine ⟨rfl, rfl, ?_⟩
  unfold rep
  dsimp only
  have e1 : decide (sg r.neg (nv r.num) < 0) = r.neg := by
    by_cases hn : r.num = []
    · rw [hn, (h6 hn).1]; rfl
    · exact sg_neg (nv_ne hl.1 h3 hn)
  have e2 : (if dnv r.den = 1 then [] else lim (dnv r.den)) = r.den := by
    unfold dnv
    by_cases hn : r.den = []
    · rw [if_pos hn, if_pos rfl, hn]
    · rw [if_neg hn]
      have : nv r.den ≠ 1 := fun e => h5 (by rw [← lim_nv hl.2 h4, e]; rfl)
      rw [if_neg this, lim_nv hl.2 h4]
  rw [e1, sg_abs, lim_nv hl.1 h3, e2]

theorem den_rep (q : Rat) : dnv (rep q).den = q.den := by
  unfold rep dnv
  dsimp only
  by_cases h : q.den = 1
  · rw [if_pos h, if_pos rfl, h]
  · rw [if_neg h]
    have : lim q.den ≠ [] := fun e => by have := nv_lim q.den; rw [e] at this; exact q.den_nz this.symm
    rw [if_neg this, nv_lim]
theorem num_rep (q : Rat) : sg (rep q).neg (nv (rep q).num) = q.num := by
  unfold rep sg
  dsimp only
  rw [nv_lim]
  by_cases h : q.num < 0
  · rw [if_pos (by simpa using h)]; omega
  · rw [if_neg (by simpa using h)]; omega
theorem qv_rep (q : Rat) : qv (rep q) = q := by
  unfold qv
  rw [den_rep, num_rep, Rat.mkRat_self]

/-- Short enough. -/
def small (q : Rat) : Prop := (rep q).num.length ≤ 128 ∧ (rep q).den.length ≤ 128
instance (q : Rat) : Decidable (small q) := inferInstanceAs (Decidable (_ ∧ _))

theorem chkE_can {l : List Int} (h1 : l.length ≤ 512) (h2 : NoZ l) : chkE l = 0 := by
  have h := chk2_ok h1 h2 h1 h2
  unfold chk2 orE at h
  by_cases h0 : chkE l = 0
  · exact h0
  · simp [h0] at h

theorem noZ_rep (q : Rat) : NoZ (rep q).num ∧ NoZ (rep q).den := by
  refine ⟨lim_noZ _, ?_⟩
  unfold rep
  split
  · simp [NoZ]
  · exact lim_noZ _

theorem lim_one : lim 1 = [1] := rfl
theorem chk_rep {q : Rat} (h : small q) : chkR (rep q) = 0 := by
  obtain ⟨h1, h2⟩ := h
  obtain ⟨z1, z2⟩ := noZ_rep q
  unfold chkR
  rw [if_neg (by omega), if_neg, if_neg]
  · rintro ⟨hd, hg⟩
    apply hg
    have hd1 : dnv (rep q).den = nv (rep q).den := by unfold dnv; rw [if_neg hd]
    rw [← hd1, den_rep]
    have : nv (rep q).num = q.num.natAbs := nv_lim _
    rw [this]
    exact q.reduced
  · rintro (h | h | h | ⟨h, h3⟩)
    · exact h (chkE_can (by omega) z1)
    · exact h (chkE_can (by omega) z2)
    · have e := den_rep q
      rw [h] at e
      have : q.den = 1 := by rw [← e]; rfl
      unfold rep at h
      rw [this] at h
      simp at h
    · have hn : q.num.natAbs = 0 := by
        have : nv (rep q).num = q.num.natAbs := nv_lim _
        rw [← this, h]; rfl
      have h0 : q.num = 0 := by omega
      have hq : q = 0 := Rat.num_eq_zero.1 h0
      subst hq
      rcases h3 with h3 | h3
      · exact absurd h3 (by decide)
      · exact h3 rfl

theorem valid_small {r : RR} (hl : LimR r) (h : chkR r = 0) : small (qv r) := by
  obtain ⟨h1, h2, _⟩ := chkR_0 hl h
  unfold small
  rw [(valid_rep hl h).2.2]
  exact ⟨h1, h2⟩

/-- A result, or ErrLong. -/
def fitR (q : Rat) : RR × Int := if small q then (rep q, 0) else (zR, 4)
theorem fitR_ok {q : Rat} (h : small q) : fitR q = (rep q, 0) := by unfold fitR; rw [if_pos h]
theorem fitR_long {q : Rat} (h : ¬ small q) : fitR q = (zR, 4) := by unfold fitR; rw [if_neg h]

/-- The first error of two numbers. -/
def chkR2 (a b : RR) : Int := orE (chkR a) (chkR b)
def opR (a b : RR) (x : RR × Int) : RR × Int := if chkR2 a b = 0 then x else (zR, chkR2 a b)
def addR (a b : RR) : RR × Int := opR a b (fitR (qv a + qv b))
def subR (a b : RR) : RR × Int := opR a b (fitR (qv a - qv b))
def mulR (a b : RR) : RR × Int := opR a b (fitR (qv a * qv b))
def divR (a b : RR) : RR × Int := opR a b (if b.num = [] then (zR, 14) else fitR (qv a / qv b))
def cmpQ (x y : Rat) : Int := if x < y then -1 else if x = y then 0 else 1
def cmpR (a b : RR) : Int × Int := if chkR2 a b = 0 then (cmpQ (qv a) (qv b), 0) else (0, chkR2 a b)
def negR (a : RR) : RR × Int := if chkR a = 0 then (rep (-qv a), 0) else (zR, chkR a)
def absR (a : RR) : RR × Int := if chkR a = 0 then (⟨false, a.num, a.den⟩, 0) else (zR, chkR a)
def floorR (a : RR) : Int × Int :=
  if chkR a = 0 then (if -9223372036854775808 ≤ (qv a).floor ∧ (qv a).floor ≤ 9223372036854775807 then ((qv a).floor, 0) else (0, 7)) else (0, chkR a)
theorem chkR2_0 {a b : RR} (h : chkR2 a b = 0) : chkR a = 0 ∧ chkR b = 0 := by
  unfold chkR2 orE at h
  by_cases h0 : chkR a = 0
  · rw [if_pos h0] at h; exact ⟨h0, h⟩
  · rw [if_neg h0] at h; exact absurd h h0
theorem chkR2_ok {a b : RR} (h1 : chkR a = 0) (h2 : chkR b = 0) : chkR2 a b = 0 := by unfold chkR2 orE; rw [if_pos h1, h2]

/-- What 'lowest' returns. -/
theorem low_spec (b : Bool) {n d : Nat} (hn : n ≠ 0) (hd : d ≠ 0) :
    rep (mkRat (sg b n) d) = ⟨b, lim (n / Nat.gcd n d), if d / Nat.gcd n d = 1 then [] else lim (d / Nat.gcd n d)⟩ := by
  have hg : 0 < Nat.gcd n d := Nat.gcd_pos_of_pos_left _ (by omega)
  have e1 : (mkRat (sg b n) d).num = sg b n / (Nat.gcd n d : Int) := by
    rw [Rat.num_mkRat, if_neg hd, sg_abs, Nat.gcd_comm]
  have e2 : (mkRat (sg b n) d).den = d / Nat.gcd n d := by
    rw [Rat.den_mkRat, if_neg hd, sg_abs, Nat.gcd_comm]
  have hdv := Nat.gcd_dvd_left n d
  have e3 : sg b n / (Nat.gcd n d : Int) = sg b (n / Nat.gcd n d) := by
    obtain ⟨k, hk⟩ := hdv
    have hk2 : n / Nat.gcd n d = k := by
      conv => lhs; lhs; rw [hk]
      exact Nat.mul_div_cancel_left _ hg
    rw [hk2]
    have : sg b n = (Nat.gcd n d : Int) * sg b k := by
      unfold sg
      conv => lhs; rw [hk]
      cases b
      · simp
      · simp [Int.mul_neg]
    rw [this]
    exact Int.mul_ediv_cancel_left _ (by omega)
  have hq : n / Nat.gcd n d ≠ 0 := by
    have := Nat.div_gcd_pos_of_pos_left d (Nat.pos_of_ne_zero hn)
    omega
  unfold rep
  rw [e1, e2, e3, sg_abs, sg_neg hq]

theorem low_zero (b : Bool) (d : Nat) : rep (mkRat (sg b 0) d) = zR := by
  have : sg b 0 = 0 := by cases b <;> rfl
  rw [this, Rat.zero_mkRat]; rfl

/-- Values: a sign, a numerator, a denominator. -/
def vq (x : Bool × Nat × Nat) : Rat := mkRat (sg x.1 x.2.1) x.2.2
def sumV (a b : Bool × Nat × Nat) : Bool × Nat × Nat :=
  if a.1 = b.1 then (a.1, a.2.1 * b.2.2 + b.2.1 * a.2.2, a.2.2 * b.2.2)
  else if a.2.1 * b.2.2 < b.2.1 * a.2.2 then (b.1, b.2.1 * a.2.2 - a.2.1 * b.2.2, a.2.2 * b.2.2)
  else (a.1, a.2.1 * b.2.2 - b.2.1 * a.2.2, a.2.2 * b.2.2)
def prodV (a b : Bool × Nat × Nat) : Bool × Nat × Nat := (a.1 != b.1, a.2.1 * b.2.1, a.2.2 * b.2.2)

theorem vq_sum {a b : Bool × Nat × Nat} (ha : a.2.2 ≠ 0) (hb : b.2.2 ≠ 0) : vq (sumV a b) = vq a + vq b := by
  obtain ⟨sa, na, da⟩ := a
  obtain ⟨sb, nb, db⟩ := b
  unfold vq
  dsimp only at ha hb ⊢
  rw [Rat.mkRat_add_mkRat _ _ ha hb]
  have e : sg (sumV (sa, na, da) (sb, nb, db)).1 (sumV (sa, na, da) (sb, nb, db)).2.1 = sg sa na * db + sg sb nb * da ∧ (sumV (sa, na, da) (sb, nb, db)).2.2 = da * db := by
    unfold sumV
    dsimp only
    have p1 : ((na * db : Nat) : Int) = (na : Int) * db := by simp
    have p2 : ((nb * da : Nat) : Int) = (nb : Int) * da := by simp
    cases sa <;> cases sb <;> simp only [if_true, Bool.true_eq_false, Bool.false_eq_true, if_false]
    · refine ⟨?_, trivial⟩; unfold sg; simp
    · split
      · refine ⟨?_, rfl⟩; unfold sg; simp [Int.neg_mul]; omega
      · refine ⟨?_, rfl⟩; unfold sg; simp [Int.neg_mul]; omega
    · split
      · refine ⟨?_, rfl⟩; unfold sg; simp [Int.neg_mul]; omega
      · refine ⟨?_, rfl⟩; unfold sg; simp [Int.neg_mul]; omega
    · refine ⟨?_, trivial⟩; unfold sg; simp [Int.neg_mul]; omega
  rw [e.1, e.2]

theorem vq_prod (a b : Bool × Nat × Nat) : vq (prodV a b) = vq a * vq b := by
  obtain ⟨sa, na, da⟩ := a
  obtain ⟨sb, nb, db⟩ := b
  unfold vq prodV
  dsimp only
  rw [Rat.mkRat_mul_mkRat]
  congr 1
  unfold sg
  cases sa <;> cases sb <;> simp [Int.neg_mul, Int.mul_neg]

/-- A valid number as a value. -/
def vof (r : RR) : Bool × Nat × Nat := (r.neg, nv r.num, dnv r.den)
theorem vq_vof (r : RR) : vq (vof r) = qv r := rfl
theorem vof_den {r : RR} (hl : LimR r) (h : chkR r = 0) : (vof r).2.2 ≠ 0 := by
  rw [show (vof r).2.2 = dnv r.den from rfl, ← (valid_rep hl h).2.1]; exact (qv r).den_nz

end Go.Proofs.Ytebdmmlniohhgaa
