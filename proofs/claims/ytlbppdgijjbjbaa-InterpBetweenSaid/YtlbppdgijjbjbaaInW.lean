/- The plain laws of InterpUnity (named sums) and of InterpBetween: Value is between the least and the greatest value, and linear. Conditions: numbers with limbs. -/
import Derived.Test.YtlbppdgijjbjbaaInU
namespace Go.Proofs.Ytlbppdgijjbjbaa
set_option linter.unusedSimpArgs false
set_option linter.unusedVariables false
open Go.RowKit

/-- The sum of the first k weights; the sum of the points so far. -/
def sumK (L : List (Nat × Rat)) (k : Nat) : RR := rep (avg (L.take k) fun _ => 1)
def atK (g : List (List Int)) (L : List (Nat × Rat)) (k a : Nat) : RR := rep (avg (L.take k) fun v => ((cutAt g v a : Int) : Rat))
def prK (g : List (List Int)) (y : Nat × Rat) (a : Nat) : RR := rep (y.2 * ((cutAt g y.1 a : Int) : Rat))
theorem sumK_0 (L : List (Nat × Rat)) : sumK L 0 = zR := rfl
theorem atK_0 (g : List (List Int)) (L : List (Nat × Rat)) (a : Nat) : atK g L 0 a = zR := rfl
theorem Wts.addS {g : List (List Int)} {x : List Int} {L : List (Nat × Rat)} (h : Wts g x L) {k : Nat} {y : Nat × Rat} (hy : L[k]? = some y) : addR (sumK L k) (rep y.2) = (sumK L (k + 1), 0) := by
  have := add_part (f := fun _ => (1 : Rat)) h.one6 h.len hy
  rw [Rat.mul_one] at this
  exact this
theorem Wts.addA {g : List (List Int)} {x : List Int} {L : List (Nat × Rat)} (h : Wts g x L) {k a : Nat} (ha : a < g.length) {y : Nat × Rat} (hy : L[k]? = some y) : addR (atK g L k a) (prK g y a) = (atK g L (k + 1) a, 0) := add_part (f := fun v => ((cutAt g v a : Int) : Rat)) (h.at6 ha) h.len hy
theorem Wts.mulA {g : List (List Int)} {x : List Int} {L : List (Nat × Rat)} (h : Wts g x L) {a : Nat} (ha : a < g.length) {y : Nat × Rat} (hy : y ∈ L) : mulR (rep y.2) (rep ((cutAt g y.1 a : Int) : Rat)) = (prK g y a, 0) := h.mul ha hy
theorem Wts.endS {g : List (List Int)} {x : List Int} {L : List (Nat × Rat)} (h : Wts g x L) : sumK L L.length = rep ((1 : Int) : Rat) := by
  unfold sumK; rw [List.take_length, h.sum]; rfl
theorem Wts.endA {g : List (List Int)} {x : List Int} {L : List (Nat × Rat)} (h : Wts g x L) {a : Nat} (ha : a < g.length) : atK g L L.length a = rep ((clampS (g.getD a []) (x.getD a 0) : Int) : Rat) := by
  unfold atK; rw [List.take_length, h.at ha]; rfl
theorem sumK_lim (L : List (Nat × Rat)) (k : Nat) : LimR (sumK L k) := limR_rep _
theorem atK_lim (g : List (List Int)) (L : List (Nat × Rat)) (k a : Nat) : LimR (atK g L k a) := limR_rep _
theorem prK_lim (g : List (List Int)) (y : Nat × Rat) (a : Nat) : LimR (prK g y a) := limR_rep _
theorem RdWs.at7 {w : World} {a : Option Addr} {n c : Nat} {l : List (Nat × RR)} (h : ∃ a2 cap, Value.slice a n c = .slice a2 l.length cap ∧ l.length ≤ cap ∧ cap ≤ 9223372036854775807 ∧
  ∀ i y, l[i]? = some y → ∃ b off a1 c1 a2x c2, a2 = some ⟨b, off, none⟩ ∧ b < w.heap.size ∧ w.cell? ⟨b, off + i * 4, none⟩ = some (.int .i64 (y.1 : Nat)) ∧ w.cell? ⟨b, off + i * 4 + 1, none⟩ = some (.bool y.2.neg) ∧ w.cell? ⟨b, off + i * 4 + 2, none⟩ = some (.slice a1 y.2.num.length c1) ∧ w.cell? ⟨b, off + i * 4 + 3, none⟩ = some (.slice a2x y.2.den.length c2) ∧
    RdR w (.agg #[.bool y.2.neg, .slice a1 y.2.num.length c1, .slice a2x y.2.den.length c2]) y.2) :
  n = l.length ∧ ((∃ b off, a = some ⟨b, off, none⟩ ∧ b < w.heap.size ∧ ∀ i y, l[i]? = some y → ∃ a1 c1 a2x c2, w.cell? ⟨b, off + i * 4, none⟩ = some (.int .i64 (y.1 : Nat)) ∧ w.cell? ⟨b, off + i * 4 + 1, none⟩ = some (.bool y.2.neg) ∧ w.cell? ⟨b, off + i * 4 + 2, none⟩ = some (.slice a1 y.2.num.length c1) ∧ w.cell? ⟨b, off + i * 4 + 3, none⟩ = some (.slice a2x y.2.den.length c2) ∧
    RdR w (.agg #[.bool y.2.neg, .slice a1 y.2.num.length c1, .slice a2x y.2.den.length c2]) y.2) ∨ l = []) := by
  obtain ⟨a2, cap, e, _, _, h3⟩ := h
  injection e with e1 e2 e3
  subst e1
  refine ⟨e2, ?_⟩
  cases l with
  | nil => exact .inr rfl
  | cons z r =>
    obtain ⟨b, off, _, _, _, _, ea, hb, _⟩ := h3 0 z rfl
    refine .inl ⟨b, off, ea, hb, fun i y hi => ?_⟩
    obtain ⟨b2, off2, a1, c1, a2x, c2, ea2, _, f⟩ := h3 i y hi
    rw [ea] at ea2
    injection ea2 with ea2
    injection ea2 with eb eo
    subst eb; subst eo
    exact ⟨a1, c1, a2x, c2, f⟩

/-- A sum that goes through. -/
theorem addR_ok {a b : RR} (h : (addR a b).2 = 0) : chkR a = 0 ∧ chkR b = 0 ∧ small (qv a + qv b) ∧ (addR a b).1 = rep (qv a + qv b) := by
  by_cases hc : chkR2 a b = 0
  · have e : addR a b = fitR (qv a + qv b) := if_pos hc
    rw [e] at h ⊢
    by_cases hs : small (qv a + qv b)
    · rw [fitR_ok hs]
      exact ⟨(chkR2_0 hc).1, (chkR2_0 hc).2, hs, rfl⟩
    · rw [fitR_long hs] at h; cases h
  · have e : addR a b = (zR, chkR2 a b) := if_neg hc
    rw [e] at h; exact absurd h hc
theorem mulR_ok {a b : RR} (h : (mulR a b).2 = 0) : chkR a = 0 ∧ chkR b = 0 ∧ small (qv a * qv b) ∧ (mulR a b).1 = rep (qv a * qv b) := by
  by_cases hc : chkR2 a b = 0
  · have e : mulR a b = fitR (qv a * qv b) := if_pos hc
    rw [e] at h ⊢
    by_cases hs : small (qv a * qv b)
    · rw [fitR_ok hs]
      exact ⟨(chkR2_0 hc).1, (chkR2_0 hc).2, hs, rfl⟩
    · rw [fitR_long hs] at h; cases h
  · have e : mulR a b = (zR, chkR2 a b) := if_neg hc
    rw [e] at h; exact absurd h hc
theorem cmpR_ok {a b : RR} (h : (cmpR a b).2 = 0) : chkR a = 0 ∧ chkR b = 0 ∧ (cmpR a b).1 = cmpQ (qv a) (qv b) := by
  by_cases hc : chkR2 a b = 0
  · have e : cmpR a b = (cmpQ (qv a) (qv b), 0) := if_pos hc
    exact ⟨(chkR2_0 hc).1, (chkR2_0 hc).2, by rw [e]⟩
  · have e : cmpR a b = (0, chkR2 a b) := if_neg hc
    rw [e] at h; exact absurd h hc
/-- The error of a sum or a product of valid numbers. -/
theorem addR_err {a b : RR} (ha : chkR a = 0) (hb : chkR b = 0) : (addR a b).2 = 0 ∨ addR a b = (zR, 4) := by
  have e : addR a b = fitR (qv a + qv b) := if_pos (chkR2_ok ha hb)
  rw [e]
  by_cases hs : small (qv a + qv b)
  · rw [fitR_ok hs]; exact .inl rfl
  · rw [fitR_long hs]; exact .inr rfl
theorem mulR_err {a b : RR} (ha : chkR a = 0) (hb : chkR b = 0) : (mulR a b).2 = 0 ∨ mulR a b = (zR, 4) := by
  have e : mulR a b = fitR (qv a * qv b) := if_pos (chkR2_ok ha hb)
  rw [e]
  by_cases hs : small (qv a * qv b)
  · rw [fitR_ok hs]; exact .inl rfl
  · rw [fitR_long hs]; exact .inr rfl
theorem addL_two {s m : RR} (hs : LimR s) (h : chkR s = 0) : addL zR [s, m] = if (addR s m).2 = 0 then ((addR s m).1, 0) else (zR, (addR s m).2) := by
  unfold addL
  rw [addR_zero7 hs h, if_pos rfl]
  unfold addL
  rfl
/-- Dot of numbers, where it goes through. -/
theorem dotL_ok (f : Nat → RR) : ∀ (L : List (Nat × Rat)) (s : RR), LimR s → chkR s = 0 → (∀ y ∈ L, small y.2) → (dotL s (L.map fun y => rep y.2) (L.map fun y => f y.1)).2 = 0 →
    (∀ y ∈ L, chkR (f y.1) = 0) ∧ (dotL s (L.map fun y => rep y.2) (L.map fun y => f y.1)).1 = rep (qv s + avg L fun v => qv (f v)) ∧ small (qv s + avg L fun v => qv (f v))
  | [], s, hs, hc, _, _ => by
    have e : qv s + avg [] (fun v => qv (f v)) = qv s := by simp only [avg]; grind
    rw [e]
    exact ⟨fun _ h => (by cases h), (valid_rep hs hc).2.2.symm, valid_small hs hc⟩
  | y :: r, s, hs, hc, hw, h => by
    simp only [List.map_cons] at h ⊢
    unfold dotL at h ⊢
    by_cases hm : (mulR (rep y.2) (f y.1)).2 = 0
    · rw [if_pos hm] at h ⊢
      obtain ⟨_, m2, m3, m4⟩ := mulR_ok hm
      rw [qv_rep] at m3 m4
      rw [addL_two hs hc] at h ⊢
      by_cases ha : (addR s (mulR (rep y.2) (f y.1)).1).2 = 0
      · rw [if_pos ha] at h ⊢
        rw [if_pos rfl] at h ⊢
        dsimp only at h ⊢
        obtain ⟨_, _, a3, a4⟩ := addR_ok ha
        rw [m4, qv_rep] at a3 a4
        rw [m4] at h ⊢
        rw [a4] at h ⊢
        obtain ⟨i1, i2, i3⟩ := dotL_ok f r _ (limR_rep _) (chk_rep a3) (fun z hz => hw z (List.mem_cons_of_mem _ hz)) h
        rw [qv_rep] at i2 i3
        have e : qv s + y.2 * qv (f y.1) + avg r (fun v => qv (f v)) = qv s + avg (y :: r) fun v => qv (f v) := by simp only [avg]; grind
        rw [e] at i2 i3
        refine ⟨fun z hz => ?_, i2, i3⟩
        rcases List.mem_cons.1 hz with rfl | hz
        · exact m2
        · exact i1 z hz
      · rw [if_neg ha] at h
        rw [if_neg ha] at h
        exact absurd h ha
    · rw [if_neg hm] at h
      exact absurd h hm
/-- Of valid numbers it goes through, or is too long. -/
theorem dotL_err (f : Nat → RR) : ∀ (L : List (Nat × Rat)) (s : RR), LimR s → chkR s = 0 → (∀ y ∈ L, small y.2 ∧ chkR (f y.1) = 0) → (dotL s (L.map fun y => rep y.2) (L.map fun y => f y.1)).2 = 0 ∨ (dotL s (L.map fun y => rep y.2) (L.map fun y => f y.1)).2 = 4
  | [], s, _, _, _ => .inl rfl
  | y :: r, s, hs, hc, hw => by
    simp only [List.map_cons]
    obtain ⟨w1, w2⟩ := hw y (by simp)
    unfold dotL
    rcases mulR_err (chk_rep w1) w2 with hm | hm
    · rw [if_pos hm]
      obtain ⟨_, m2, m3, m4⟩ := mulR_ok hm
      rw [addL_two hs hc, m4]
      rcases addR_err hc (chk_rep m3) with ha | ha
      · rw [if_pos ha]
        rw [if_pos rfl]
        obtain ⟨_, _, a3, a4⟩ := addR_ok ha
        dsimp only
        rw [a4]
        exact dotL_err f r _ (limR_rep _) (chk_rep a3) (fun z hz => hw z (List.mem_cons_of_mem _ hz))
      · rw [ha]
        exact .inr rfl
    · rw [hm]
      exact .inr rfl
/-- What Value says where it goes through. -/
theorem value_ok {g : List (List Int)} {x : List Int} {vals : List RR} (h : (valueS g vals x).2 = 0) : ∃ L, Wts g x L ∧ vals.length = gsize g ∧ valueS g vals x = dotR (L.map fun y => rep y.2) (L.map fun y => vals.getD y.1 zR) ∧
    (∀ y ∈ L, chkR (vals.getD y.1 zR) = 0) ∧ (valueS g vals x).1 = rep (avg L fun v => qv (vals.getD v zR)) ∧ small (avg L fun v => qv (vals.getD v zR)) := by
  have hs := h
  unfold valueS at h
  by_cases hw : (weightsS g x).2 = 0
  · rw [if_pos hw] at h
    by_cases hl : vals.length = gsize g
    · have hW := wts_of hw
      obtain ⟨L, hL⟩ : ∃ L, L = wtsL g (xsOf g x) g.length := ⟨_, rfl⟩
      rw [← hL] at hW
      have e : valueS g vals x = dotR (L.map fun y => rep y.2) (L.map fun y => vals.getD y.1 zR) := by
        unfold valueS
        rw [if_pos hw, if_pos hl, hW.is]
        unfold repL
        simp only [List.map_map]
        rfl
      have e2 : dotR (L.map fun y => rep y.2) (L.map fun y => vals.getD y.1 zR) = dotL zR (L.map fun y => rep y.2) (L.map fun y => vals.getD y.1 zR) := by
        unfold dotR; rw [if_pos (by simp)]
      rw [e, e2] at hs
      obtain ⟨i1, i2, i3⟩ := dotL_ok (fun v => vals.getD v zR) L zR zR_lim (by decide) (fun y hy => small_of_bd (hW.bd5 hy) (by decide)) hs
      have e3 : qv zR + avg L (fun v => qv (vals.getD v zR)) = avg L fun v => qv (vals.getD v zR) := by rw [show qv zR = 0 from by rw [← rep_zero, qv_rep], Rat.zero_add]
      rw [e3] at i2 i3
      exact ⟨L, hW, hl, e, i1, by rw [e, e2]; exact i2, i3⟩
    · rw [if_neg hl] at h; cases h
  · rw [if_neg hw] at h; exact absurd h hw
theorem Wts.det {g : List (List Int)} {x : List Int} {L M : List (Nat × Rat)} (h : Wts g x L) (k : Wts g x M) : L = M := by rw [h.eq, k.eq]
theorem lt_avg {f : Nat → Rat} {m : Rat} {l : List (Nat × Rat)} (hl : l ≠ []) (h : ∀ y ∈ l, 0 < y.2 ∧ m < f y.1) : m * avg l (fun _ => 1) < avg l f := by
  cases l with
  | nil => exact absurd rfl hl
  | cons y r =>
    obtain ⟨h1, h2⟩ := h y (by simp)
    have ih := le_avg r fun z hz => ⟨(h z (by simp [hz])).1, Rat.le_of_lt (h z (by simp [hz])).2⟩
    simp only [avg]
    have := Rat.mul_lt_mul_of_pos_left h2 h1
    grind
theorem avg_lt {f : Nat → Rat} {m : Rat} {l : List (Nat × Rat)} (hl : l ≠ []) (h : ∀ y ∈ l, 0 < y.2 ∧ f y.1 < m) : avg l f < m * avg l (fun _ => 1) := by
  cases l with
  | nil => exact absurd rfl hl
  | cons y r =>
    obtain ⟨h1, h2⟩ := h y (by simp)
    have ih := avg_le r fun z hz => ⟨(h z (by simp [hz])).1, Rat.le_of_lt (h z (by simp [hz])).2⟩
    simp only [avg]
    have := Rat.mul_lt_mul_of_pos_left h2 h1
    grind
/-- Whether one of the first k values is at most y, or at least. -/
def belowK (a : List RR) (y : RR) (k : Nat) : Bool := (List.range k).any fun i => decide ((cmpR (a.getD i zR) y).1 ≤ 0)
def aboveK (a : List RR) (y : RR) (k : Nat) : Bool := (List.range k).any fun i => decide (0 ≤ (cmpR (a.getD i zR) y).1)
def addK (a b : List RR) (k : Nat) : List RR := (List.range k).map fun i => (addR (a.getD i zR) (b.getD i zR)).1
theorem belowK_succ (a : List RR) (y : RR) (k : Nat) : belowK a y (k + 1) = (belowK a y k || decide ((cmpR (a.getD k zR) y).1 ≤ 0)) := by unfold belowK; rw [List.range_succ, List.any_append]; simp
theorem aboveK_succ (a : List RR) (y : RR) (k : Nat) : aboveK a y (k + 1) = (aboveK a y k || decide (0 ≤ (cmpR (a.getD k zR) y).1)) := by unfold aboveK; rw [List.range_succ, List.any_append]; simp
theorem addK_succ (a b : List RR) (k : Nat) : addK a b (k + 1) = addK a b k ++ [(addR (a.getD k zR) (b.getD k zR)).1] := by unfold addK; rw [List.range_succ, List.map_append]; rfl
theorem addK_len (a b : List RR) (k : Nat) : (addK a b k).length = k := by unfold addK; simp
theorem addK_lim (a b : List RR) (k : Nat) : LimL (addK a b k) := fun i hi => by
  rw [addK_len] at hi
  have : (addK a b k).getD i zR = (addR (a.getD i zR) (b.getD i zR)).1 := by unfold addK; simp [hi]
  rw [this]; exact addR_lim _ _
theorem cmpQ_le {p q : Rat} : cmpQ p q ≤ 0 ↔ ¬ q < p := by
  unfold cmpQ
  split
  · constructor
    · intro _; grind
    · intro _; decide
  · split
    · constructor
      · intro _; grind
      · intro _; decide
    · constructor
      · intro h; exact absurd h (by decide)
      · intro h; exfalso; grind
theorem cmpQ_ge {p q : Rat} : 0 ≤ cmpQ p q ↔ ¬ p < q := by
  unfold cmpQ
  split
  · constructor
    · intro h; exact absurd h (by decide)
    · intro h; exfalso; grind
  · split
    · constructor
      · intro _; grind
      · intro _; decide
    · constructor
      · intro _; grind
      · intro _; decide
/-- The law. -/
theorem between_law {g : List (List Int)} {a b : List RR} {x : List Int} (ha : LimL a) (hb : LimL b) (h1 : (valueS g a x).2 = 0) (h2 : (valueS g b x).2 = 0) (hab : a.length = b.length)
    (hs : ∀ i, i < a.length → (addR (a.getD i zR) (b.getD i zR)).2 = 0) (hc : ∀ i, i < a.length → (cmpR (a.getD i zR) (valueS g a x).1).2 = 0) :
    belowK a (valueS g a x).1 a.length = true ∧ aboveK a (valueS g a x).1 a.length = true ∧
      ((valueS g (addK a b a.length) x).2 = 4 ∨ (addR (valueS g a x).1 (valueS g b x).1).2 = 4 ∨
        ((valueS g (addK a b a.length) x).2 = 0 ∧ (addR (valueS g a x).1 (valueS g b x).1).2 = 0 ∧ (valueS g (addK a b a.length) x).1 = (addR (valueS g a x).1 (valueS g b x).1).1)) := by
  obtain ⟨L, hL, la, ea, ca, ya, sa⟩ := value_ok h1
  obtain ⟨M, hM, lb, eb, cb, yb, sb⟩ := value_ok h2
  have := hL.det hM
  subst this
  have hne : L ≠ [] := by
    intro e
    have := hL.sum
    rw [e] at this
    exact absurd this (by decide)
  rw [ya, yb]
  rw [ya] at hc
  have hcq : ∀ i, i < a.length → (cmpR (a.getD i zR) (rep (avg L fun v => qv (a.getD v zR)))).1 = cmpQ (qv (a.getD i zR)) (avg L fun v => qv (a.getD v zR)) := fun i hi => by rw [(cmpR_ok (hc i hi)).2.2, qv_rep]
  have hlt : ∀ y ∈ L, y.1 < a.length := fun y hy => by rw [la]; exact hL.lt hy
  have hsl : ∀ i, i < a.length → (addK a b a.length).getD i zR = rep (qv (a.getD i zR) + qv (b.getD i zR)) := fun i hi => by
    have : (addK a b a.length).getD i zR = (addR (a.getD i zR) (b.getD i zR)).1 := by unfold addK; simp [hi]
    rw [this, (addR_ok (hs i hi)).2.2.2]
  have hsm : ∀ i, i < a.length → small (qv (a.getD i zR) + qv (b.getD i zR)) := fun i hi => (addR_ok (hs i hi)).2.2.1
  refine ⟨?_, ?_, ?_⟩
  · rcases hB : belowK a (rep (avg L fun v => qv (a.getD v zR))) a.length with _ | _
    · exfalso
      have hall : ∀ y ∈ L, 0 < y.2 ∧ (avg L fun v => qv (a.getD v zR)) < qv (a.getD y.1 zR) := fun y hy => ⟨hL.pos hy, by
        have hi := hlt y hy
        have := (List.any_eq_false.1 hB) y.1 (List.mem_range.2 hi)
        rw [hcq _ hi] at this
        have h5 : ¬ cmpQ (qv (a.getD y.1 zR)) (avg L fun v => qv (a.getD v zR)) ≤ 0 := by simpa using this
        rw [cmpQ_le] at h5
        exact Classical.not_not.1 h5⟩
      have := lt_avg (f := fun v => qv (a.getD v zR)) hne hall
      rw [hL.sum] at this
      grind
    · rfl
  · rcases hB : aboveK a (rep (avg L fun v => qv (a.getD v zR))) a.length with _ | _
    · exfalso
      have hall : ∀ y ∈ L, 0 < y.2 ∧ qv (a.getD y.1 zR) < (avg L fun v => qv (a.getD v zR)) := fun y hy => ⟨hL.pos hy, by
        have hi := hlt y hy
        have := (List.any_eq_false.1 hB) y.1 (List.mem_range.2 hi)
        rw [hcq _ hi] at this
        have h5 : ¬ 0 ≤ cmpQ (qv (a.getD y.1 zR)) (avg L fun v => qv (a.getD v zR)) := by simpa using this
        rw [cmpQ_ge] at h5
        exact Classical.not_not.1 h5⟩
      have := avg_lt (f := fun v => qv (a.getD v zR)) hne hall
      rw [hL.sum] at this
      grind
    · rfl
  · have e : valueS g (addK a b a.length) x = dotL zR (L.map fun y => rep y.2) (L.map fun y => (addK a b a.length).getD y.1 zR) := by
      have hw : (weightsS g x).2 = 0 := by rw [hL.is]
      unfold valueS
      rw [if_pos hw, if_pos (by rw [addK_len, la]), hL.is]
      unfold repL dotR
      simp only [List.map_map, List.length_map]
      rfl
    have hck : ∀ y ∈ L, small y.2 ∧ chkR ((addK a b a.length).getD y.1 zR) = 0 := fun y hy => ⟨small_of_bd (hL.bd5 hy) (by decide), by rw [hsl _ (hlt y hy)]; exact chk_rep (hsm _ (hlt y hy))⟩
    rcases addR_err (chk_rep sa) (chk_rep sb) with hw | hw
    · rcases dotL_err (fun v => (addK a b a.length).getD v zR) L zR zR_lim (by decide) hck with hd | hd
      · refine .inr (.inr ⟨by rw [e]; exact hd, hw, ?_⟩)
        obtain ⟨_, i2, _⟩ := dotL_ok (fun v => (addK a b a.length).getD v zR) L zR zR_lim (by decide) (fun y hy => (hck y hy).1) hd
        have e4 : avg L (fun v => qv ((addK a b a.length).getD v zR)) = avg L (fun v => qv (a.getD v zR)) + avg L (fun v => qv (b.getD v zR)) := by
          rw [← avg_add]
          refine avg_congr L fun y hy => ?_
          rw [hsl _ (hlt y hy), qv_rep]
        rw [e, i2, e4, show qv zR = 0 from by rw [← rep_zero, qv_rep], Rat.zero_add, (addR_ok hw).2.2.2, qv_rep, qv_rep]
      · exact .inl (by rw [e]; exact hd)
    · exact .inr (.inl (by rw [hw]))

end Go.Proofs.Ytlbppdgijjbjbaa
