/- Texts of this claim, laid together: RatK RatAw RatLo RatP RatCm RatOp. Conditions: as each states. -/
import Derived.Test.YthkfkfbfblppeaaGreatGJ
/- Constants of layer 6's examples. Conditions: none. -/
namespace Go.Proofs.YthkfkfbfblppeaaGreat
set_option linter.unusedSimpArgs false
set_option linter.unusedVariables false

theorem k_x : ofS 6 (-4) = ⟨true, [3], [2]⟩ := by kernel_rfl
theorem k_12 : ofS 1 2 = ⟨false, [1], [2]⟩ := by kernel_rfl
theorem k_13 : ofS 1 3 = ⟨false, [1], [3]⟩ := by kernel_rfl
theorem k_23 : ofS 2 3 = ⟨false, [2], [3]⟩ := by kernel_rfl
theorem k_m14 : ofS (-1) 4 = ⟨true, [1], [4]⟩ := by kernel_rfl
theorem k_fl : floorR ⟨true, [3], [2]⟩ = (-2, 0) := by kernel_rfl
theorem k_add : addR ⟨false, [1], [2]⟩ ⟨false, [1], [3]⟩ = (⟨false, [5], [6]⟩, 0) := by kernel_rfl
theorem k_mul : mulR ⟨false, [1], [2]⟩ ⟨false, [2], [3]⟩ = (⟨false, [1], [3]⟩, 0) := by kernel_rfl
theorem k_div : divR ⟨false, [1], [2]⟩ ⟨true, [1], [4]⟩ = (⟨true, [2], []⟩, 0) := by kernel_rfl
theorem k_five : rep ((5 : Int) : Rat) = ⟨false, [5], []⟩ := by kernel_rfl
theorem k_p1 : parseQ ⟨#[50, 47, 52]⟩ = (zR, 2) := by kernel_rfl
theorem k_p2 : parseQ ⟨#[51, 47, 49]⟩ = (zR, 2) := by kernel_rfl
theorem k_p3 : parseQ ⟨#[45, 48]⟩ = (zR, 2) := by kernel_rfl
theorem k_d3 : decT 3 = ⟨#[51]⟩ := by unfold decT; rw [if_neg (by decide), decR_pos (by decide), show 3 / 10 = 0 from rfl, decR_zero]; rfl
theorem k_d2 : decT 2 = ⟨#[50]⟩ := by unfold decT; rw [if_neg (by decide), decR_pos (by decide), show 2 / 10 = 0 from rfl, decR_zero]; rfl
theorem k_tx : textR ⟨true, [3], [2]⟩ = (⟨#[45, 51, 47, 50]⟩, 0) := by
  unfold textR
  rw [show nv [3] = 3 from rfl, show nv [2] = 2 from rfl, k_d3, k_d2, if_pos (show chkR ⟨true, [3], [2]⟩ = 0 by kernel_rfl), if_neg (by simp), if_pos rfl]
  rfl

end Go.Proofs.YthkfkfbfblppeaaGreat

/- Walk of awake of layer 6's laws: it returns true (written by mkaw06.py). Conditions: none. -/
namespace Go.Proofs.YthkfkfbfblppeaaGreat
set_option linter.unusedSimpArgs false
set_option linter.unusedVariables false
open Go.RowKit

/-- An api.Rat written out: two slices of one limb each. -/
theorem lit2 (w : World) (b : Bool) (x y : Int) (n : Nat) (hn : w.heap.size = n) : RdR ((w.alloc (.cells #[.int .u32 x] 206)).alloc (.cells #[.int .u32 y] 206)) (.agg #[.bool b, .slice (some ⟨n, 0, none⟩) 1 1, .slice (some ⟨n + 1, 0, none⟩) 1 1]) ⟨b, [x], [y]⟩ := by
  subst hn
  refine ⟨_, _, rfl, (rdU_new w [x] (by simp)).ext ((Ext.refl _).alloc _), ?_⟩
  have := rdU_new (w.alloc (.cells #[.int .u32 x] 206)) [y] (by simp)
  rwa [World.size_alloc] at this
/-- .. one slice. -/
theorem lit1 (w : World) (b : Bool) (x : Int) (n : Nat) (hn : w.heap.size = n) : RdR (w.alloc (.cells #[.int .u32 x] 206)) (.agg #[.bool b, .slice (some ⟨n, 0, none⟩) 1 1, .slice none 0 0]) ⟨b, [x], []⟩ := by
  subst hn
  exact ⟨_, _, rfl, rdU_new w [x] (by simp), (NewV.nil w _).rd⟩

theorem equalTrue_any (v1 v2 : Value) (r1 r2 : RR) (e : r1 = r2) (w : World) (h1 : RdR w v1 r1) (h2 : RdR w v2 r2) :
    Calls Tryz.prog 39 #[v1, v2] w fun e w' => e = .returned (.bool true) ∧ Ext w w' := by
  have := equalRat_any v1 v2 r1 r2 w h1 h2
  rwa [decide_eq_true e] at this

theorem limR_of (b : Bool) (l1 l2 : List Int) (h : (l1 ++ l2).all (fun x => decide (0 ≤ x) && decide (x < 4294967296)) = true) : LimR ⟨b, l1, l2⟩ := by
  rw [List.all_append, Bool.and_eq_true] at h
  exact ⟨lims _ h.1, lims _ h.2⟩

end Go.Proofs.YthkfkfbfblppeaaGreat

/- Walk of Long of layer 6's laws. Conditions: the numbers lie in one block. -/
namespace Go.Proofs.YthkfkfbfblppeaaGreat
set_option linter.unusedSimpArgs false
set_option linter.unusedVariables false
open Go.RowKit

/-- A slice's header. -/
abbrev Hd := Option Addr × Nat × Nat
/-- No length that the laws leave out. -/
def okLen (n : Nat) : Prop := (n ≤ 6 ∨ 128 < n) ∧ n ≤ 200

/-- What Long returns. -/
def LongR (vs : List (Hd × Hd)) (e : Ending) : Prop := ∃ r, e = .returned (.bool r) ∧ (r = false → ∀ (i : Nat) (hi : i < vs.length), okLen (vs[i]).1.2.1 ∧ okLen (vs[i]).2.2.1)

set_option maxHeartbeats 4000000 in
theorem long6_any (b : Nat) (vs : List (Hd × Hd)) (w : World) (hs : vs.length ≤ 100)
    (h : ∀ (i : Nat) (hi : i < vs.length), w.cell? ⟨b, i * 3 + 1, none⟩ = some (.slice (vs[i]).1.1 (vs[i]).1.2.1 (vs[i]).1.2.2) ∧ w.cell? ⟨b, i * 3 + 2, none⟩ = some (.slice (vs[i]).2.1 (vs[i]).2.2.1 (vs[i]).2.2.2)) :
    Calls Tryz.prog 160 #[.slice (some ⟨b, 0, none⟩) vs.length vs.length] w fun e w' => LongR vs e ∧ Ext w w' := by
  have H := Lib.hid h; clear h
  go_enter Tryz.func160, Tryz.ntmps160
  go_wp2_with fail
  go_loopw [3, 4, 5] (fun i _ _ wr => ∃ k : Nat, k ≤ vs.length ∧ i = .int .i64 k ∧ Ext w wr ∧ (∃ n, wr = w.drewN n) ∧ Hid (∀ (i : Nat) (hi : i < vs.length), i < k → okLen (vs[i]).1.2.1 ∧ okLen (vs[i]).2.2.1)) (fun i _ _ _ => vs.length - (intOf i).toNat)
  case atStart => exact ⟨0, Nat.zero_le _, rfl, Ext.refl _, ⟨0, rfl⟩, Lib.hid (fun i _ h => by omega)⟩
  case round =>
    obtain ⟨k, hk, rfl, hx, ⟨nd, rfl⟩, HK⟩ := hrel
    by_cases hlt : k < vs.length
    · obtain ⟨hc1, hc2⟩ := H.out k hlt
      have hstep : okLen (vs[k]).1.2.1 → okLen (vs[k]).2.2.1 → Hid (∀ (i : Nat) (hi : i < vs.length), i < k + 1 → okLen (vs[i]).1.2.1 ∧ okLen (vs[i]).2.2.1) := fun h1 h2 => Lib.hid (fun i hi hik => by
        by_cases e : i = k
        · subst e; exact ⟨h1, h2⟩
        · exact HK.out i hi (by omega))
      obtain ⟨x, hxx⟩ : ∃ x, x = vs[k] := ⟨_, rfl⟩
      rw [← hxx] at hc1 hc2 hstep
      obtain ⟨⟨a, n, c⟩, a2, m, c2⟩ := x
      clear hxx
      dsimp only at hc1 hc2 hstep
      have HS := Lib.hid hstep
      have X := Lib.hid hx
      clear hstep hx
      have q0 : (k : Int) < (vs.length : Int) := by omega
      have hmx : Tryz.prog.follows .mixedOrders = true := by kernel_rfl
      go_wp2_with fail
      go_quiet (fail)
      have hn4 : n ≤ 6 ∨ (6 < n ∧ n ≤ 128) ∨ (128 < n ∧ n ≤ 200) ∨ 200 < n := by omega
      have hm4 : m ≤ 6 ∨ (6 < m ∧ m ≤ 128) ∨ (128 < m ∧ m ≤ 200) ∨ 200 < m := by omega
      have okA : ∀ x : Nat, x ≤ 6 → okLen x := fun x h => ⟨.inl h, by omega⟩
      have okC : ∀ x : Nat, 128 < x ∧ x ≤ 200 → okLen x := fun x h => ⟨.inr h.1, h.2⟩
      have OA := Lib.hid okA; have OC := Lib.hid okC; have X0 := Ext.refl w
      clear okA okC
      clear hc1 hc2
      rcases hn4 with hn | hn | hn | hn
      · rcases hm4 with hm | hm | hm | hm
        · have q1 : ¬ (6 : Int) < (n : Int) := by omega
          have q2 : ¬ (200 : Int) < (n : Int) := by omega
          have r1 : ¬ (6 : Int) < (m : Int) := by omega
          have r2 : ¬ (200 : Int) < (m : Int) := by omega
          have S := HS.out (OA.out _ hn) (OA.out _ hm)
          clear hn hm
          go_wp2
          go_roundw
          case rel => exact ⟨k + 1, by omega, by go_num, X0.drewN _, ⟨_, rfl⟩, S⟩
          case measure => simp [intOf]; omega
        · have q1 : ¬ (6 : Int) < (n : Int) := by omega
          have q2 : ¬ (200 : Int) < (n : Int) := by omega
          have r1 : (6 : Int) < (m : Int) := by omega
          have r2 : (m : Int) ≤ 128 := by omega
          clear hn hm
          go_wp2
          go_ret
          exact ⟨⟨_, rfl, fun h => by cases h⟩, X0.drewN _⟩
        · have q1 : ¬ (6 : Int) < (n : Int) := by omega
          have q2 : ¬ (200 : Int) < (n : Int) := by omega
          have r1 : (6 : Int) < (m : Int) := by omega
          have r2 : ¬ (m : Int) ≤ 128 := by omega
          have r3 : ¬ (200 : Int) < (m : Int) := by omega
          have S := HS.out (OA.out _ hn) (OC.out _ hm)
          clear hn hm
          go_wp2
          go_roundw
          case rel => exact ⟨k + 1, by omega, by go_num, X0.drewN _, ⟨_, rfl⟩, S⟩
          case measure => simp [intOf]; omega
        · have q1 : ¬ (6 : Int) < (n : Int) := by omega
          have q2 : ¬ (200 : Int) < (n : Int) := by omega
          have r1 : (6 : Int) < (m : Int) := by omega
          have r2 : ¬ (m : Int) ≤ 128 := by omega
          have r3 : (200 : Int) < (m : Int) := by omega
          clear hn hm
          go_wp2
          go_ret
          exact ⟨⟨_, rfl, fun h => by cases h⟩, X0.drewN _⟩
      · rcases hm4 with hm | hm | hm | hm
        · have q1 : (6 : Int) < (n : Int) := by omega
          have q2 : (n : Int) ≤ 128 := by omega
          have r1 : ¬ (6 : Int) < (m : Int) := by omega
          have r2 : ¬ (200 : Int) < (m : Int) := by omega
          clear hn hm
          go_wp2
          go_ret
          exact ⟨⟨_, rfl, fun h => by cases h⟩, X0.drewN _⟩
        · have q1 : (6 : Int) < (n : Int) := by omega
          have q2 : (n : Int) ≤ 128 := by omega
          have r1 : (6 : Int) < (m : Int) := by omega
          have r2 : (m : Int) ≤ 128 := by omega
          clear hn hm
          go_wp2
          go_ret
          exact ⟨⟨_, rfl, fun h => by cases h⟩, X0.drewN _⟩
        · have q1 : (6 : Int) < (n : Int) := by omega
          have q2 : (n : Int) ≤ 128 := by omega
          have r1 : (6 : Int) < (m : Int) := by omega
          have r2 : ¬ (m : Int) ≤ 128 := by omega
          have r3 : ¬ (200 : Int) < (m : Int) := by omega
          clear hn hm
          go_wp2
          go_ret
          exact ⟨⟨_, rfl, fun h => by cases h⟩, X0.drewN _⟩
        · have q1 : (6 : Int) < (n : Int) := by omega
          have q2 : (n : Int) ≤ 128 := by omega
          have r1 : (6 : Int) < (m : Int) := by omega
          have r2 : ¬ (m : Int) ≤ 128 := by omega
          have r3 : (200 : Int) < (m : Int) := by omega
          clear hn hm
          go_wp2
          go_ret
          exact ⟨⟨_, rfl, fun h => by cases h⟩, X0.drewN _⟩
      · rcases hm4 with hm | hm | hm | hm
        · have q1 : (6 : Int) < (n : Int) := by omega
          have q2 : ¬ (n : Int) ≤ 128 := by omega
          have q3 : ¬ (200 : Int) < (n : Int) := by omega
          have r1 : ¬ (6 : Int) < (m : Int) := by omega
          have r2 : ¬ (200 : Int) < (m : Int) := by omega
          have S := HS.out (OC.out _ hn) (OA.out _ hm)
          clear hn hm
          go_wp2
          go_roundw
          case rel => exact ⟨k + 1, by omega, by go_num, X0.drewN _, ⟨_, rfl⟩, S⟩
          case measure => simp [intOf]; omega
        · have q1 : (6 : Int) < (n : Int) := by omega
          have q2 : ¬ (n : Int) ≤ 128 := by omega
          have q3 : ¬ (200 : Int) < (n : Int) := by omega
          have r1 : (6 : Int) < (m : Int) := by omega
          have r2 : (m : Int) ≤ 128 := by omega
          clear hn hm
          go_wp2
          go_ret
          exact ⟨⟨_, rfl, fun h => by cases h⟩, X0.drewN _⟩
        · have q1 : (6 : Int) < (n : Int) := by omega
          have q2 : ¬ (n : Int) ≤ 128 := by omega
          have q3 : ¬ (200 : Int) < (n : Int) := by omega
          have r1 : (6 : Int) < (m : Int) := by omega
          have r2 : ¬ (m : Int) ≤ 128 := by omega
          have r3 : ¬ (200 : Int) < (m : Int) := by omega
          have S := HS.out (OC.out _ hn) (OC.out _ hm)
          clear hn hm
          go_wp2
          go_roundw
          case rel => exact ⟨k + 1, by omega, by go_num, X0.drewN _, ⟨_, rfl⟩, S⟩
          case measure => simp [intOf]; omega
        · have q1 : (6 : Int) < (n : Int) := by omega
          have q2 : ¬ (n : Int) ≤ 128 := by omega
          have q3 : ¬ (200 : Int) < (n : Int) := by omega
          have r1 : (6 : Int) < (m : Int) := by omega
          have r2 : ¬ (m : Int) ≤ 128 := by omega
          have r3 : (200 : Int) < (m : Int) := by omega
          clear hn hm
          go_wp2
          go_ret
          exact ⟨⟨_, rfl, fun h => by cases h⟩, X0.drewN _⟩
      · rcases hm4 with hm | hm | hm | hm
        · have q1 : (6 : Int) < (n : Int) := by omega
          have q2 : ¬ (n : Int) ≤ 128 := by omega
          have q3 : (200 : Int) < (n : Int) := by omega
          have r1 : ¬ (6 : Int) < (m : Int) := by omega
          have r2 : ¬ (200 : Int) < (m : Int) := by omega
          clear hn hm
          go_wp2
          go_ret
          exact ⟨⟨_, rfl, fun h => by cases h⟩, X0.drewN _⟩
        · have q1 : (6 : Int) < (n : Int) := by omega
          have q2 : ¬ (n : Int) ≤ 128 := by omega
          have q3 : (200 : Int) < (n : Int) := by omega
          have r1 : (6 : Int) < (m : Int) := by omega
          have r2 : (m : Int) ≤ 128 := by omega
          clear hn hm
          go_wp2
          go_ret
          exact ⟨⟨_, rfl, fun h => by cases h⟩, X0.drewN _⟩
        · have q1 : (6 : Int) < (n : Int) := by omega
          have q2 : ¬ (n : Int) ≤ 128 := by omega
          have q3 : (200 : Int) < (n : Int) := by omega
          have r1 : (6 : Int) < (m : Int) := by omega
          have r2 : ¬ (m : Int) ≤ 128 := by omega
          have r3 : ¬ (200 : Int) < (m : Int) := by omega
          clear hn hm
          go_wp2
          go_ret
          exact ⟨⟨_, rfl, fun h => by cases h⟩, X0.drewN _⟩
        · have q1 : (6 : Int) < (n : Int) := by omega
          have q2 : ¬ (n : Int) ≤ 128 := by omega
          have q3 : (200 : Int) < (n : Int) := by omega
          have r1 : (6 : Int) < (m : Int) := by omega
          have r2 : ¬ (m : Int) ≤ 128 := by omega
          have r3 : (200 : Int) < (m : Int) := by omega
          clear hn hm
          go_wp2
          go_ret
          exact ⟨⟨_, rfl, fun h => by cases h⟩, X0.drewN _⟩
    · have q0 : ¬ (k : Int) < (vs.length : Int) := by omega
      go_wp2
      go_ret
      exact ⟨⟨_, rfl, fun _ i hi => HK.out i hi (by omega)⟩, hx⟩

end Go.Proofs.YthkfkfbfblppeaaGreat

/- Plain laws: sizes of sums and products of rational numbers; the operations on numbers that are written as Lean's own say. Conditions: as each states. -/
namespace Go.Proofs.YthkfkfbfblppeaaGreat
set_option linter.unusedSimpArgs false
set_option linter.unusedVariables false

/-- At most k limbs. -/
def bd (q : Rat) (k : Nat) : Prop := q.num.natAbs < 4294967296 ^ k ∧ q.den < 4294967296 ^ k

theorem small_of_bd {q : Rat} {k : Nat} (h : bd q k) (hk : k ≤ 128) : small q := by
  refine ⟨Nat.le_trans (lim_len_le.2 h.1) hk, ?_⟩
  unfold rep
  dsimp only
  split
  · simp
  · exact Nat.le_trans (lim_len_le.2 h.2) hk
theorem bd_mono {q : Rat} {k m : Nat} (h : bd q k) (hk : k ≤ m) : bd q m := ⟨Nat.lt_of_lt_of_le h.1 (pow_le hk), Nat.lt_of_lt_of_le h.2 (pow_le hk)⟩

theorem vq_self (q : Rat) : vq (decide (q.num < 0), q.num.natAbs, q.den) = q := by
  have h := num_rep q
  unfold vq
  dsimp only
  have e : sg (decide (q.num < 0)) q.num.natAbs = q.num := by
    unfold sg
    by_cases h : q.num < 0
    · rw [if_pos (by simpa using h)]; omega
    · rw [if_neg (by simpa using h)]; omega
  rw [e, Rat.mkRat_self]

theorem vq_num_le {x : Bool × Nat × Nat} (h : x.2.2 ≠ 0) : (vq x).num.natAbs ≤ x.2.1 ∧ (vq x).den ≤ x.2.2 := by
  obtain ⟨s, n, d⟩ := x
  unfold vq
  dsimp only at h ⊢
  rw [Rat.num_mkRat, Rat.den_mkRat, if_neg h, if_neg h]
  refine ⟨?_, Nat.div_le_self _ _⟩
  refine Nat.le_trans (Int.natAbs_ediv_le_natAbs _ _) ?_
  rw [sg_abs]
  exact Nat.le_refl _

theorem bd_vq {x : Bool × Nat × Nat} {k : Nat} (h : x.2.2 ≠ 0) (h1 : x.2.1 < 4294967296 ^ k) (h2 : x.2.2 < 4294967296 ^ k) : bd (vq x) k :=
  ⟨Nat.lt_of_le_of_lt (vq_num_le h).1 h1, Nat.lt_of_le_of_lt (vq_num_le h).2 h2⟩

theorem bd_add {a b : Rat} {k m : Nat} (ha : bd a k) (hb : bd b m) : bd (a + b) (k + m + 1) := by
  have e := vq_sum (a := (decide (a.num < 0), a.num.natAbs, a.den)) (b := (decide (b.num < 0), b.num.natAbs, b.den)) a.den_nz b.den_nz
  rw [vq_self, vq_self] at e
  rw [← e]
  have h1 := prod_lt ha.1 hb.2
  have h2 := prod_lt hb.1 ha.2
  have h3 := prod_lt ha.2 hb.2
  have h4 : (4294967296 : Nat) ^ (k + m) * 2 ≤ 4294967296 ^ (k + m + 1) := by rw [Nat.pow_succ]; exact Nat.mul_le_mul_left _ (by decide)
  rw [Nat.add_comm m k] at h2
  refine bd_vq ?_ ?_ ?_
  · rw [sumV_den]; exact Nat.mul_ne_zero a.den_nz b.den_nz
  · refine Nat.lt_of_le_of_lt (sumV_le _ _) ?_
    dsimp only
    omega
  · rw [sumV_den]
    dsimp only
    omega

theorem bd_mul {a b : Rat} {k m : Nat} (ha : bd a k) (hb : bd b m) : bd (a * b) (k + m) := by
  have e := vq_prod (decide (a.num < 0), a.num.natAbs, a.den) (decide (b.num < 0), b.num.natAbs, b.den)
  rw [vq_self, vq_self] at e
  rw [← e]
  exact bd_vq (Nat.mul_ne_zero a.den_nz b.den_nz) (prod_lt ha.1 hb.1) (prod_lt ha.2 hb.2)

theorem bd_neg {a : Rat} {k : Nat} (ha : bd a k) : bd (-a) k := by
  unfold bd
  rw [Rat.neg_num, Rat.neg_den, Int.natAbs_neg]
  exact ha
theorem bd_sub {a b : Rat} {k m : Nat} (ha : bd a k) (hb : bd b m) : bd (a - b) (k + m + 1) := by
  rw [Rat.sub_eq_add_neg]
  exact bd_add ha (bd_neg hb)

theorem bd_valid {r : RR} (hl : LimR r) (hc : chkR r = 0) (h1 : okLen r.num.length) (h2 : okLen r.den.length) : bd (qv r) 6 := by
  obtain ⟨e1, e2, _⟩ := valid_rep hl hc
  obtain ⟨g1, g2, _⟩ := chkR_0 hl hc
  unfold okLen at h1 h2
  unfold bd
  rw [e1, e2, sg_abs]
  refine ⟨Nat.lt_of_lt_of_le (nv_lt hl.1) (pow_le (by omega)), ?_⟩
  unfold dnv
  split
  · exact Nat.lt_of_lt_of_le (by decide : 1 < 4294967296 ^ 1) (pow_le (by omega))
  · exact Nat.lt_of_lt_of_le (nv_lt hl.2) (pow_le (by omega))

theorem opR_rep {a b : Rat} (ha : small a) (hb : small b) (x : RR × Int) : opR (rep a) (rep b) x = x := by
  unfold opR
  rw [if_pos (chkR2_ok (chk_rep ha) (chk_rep hb))]
theorem add_rep {a b : Rat} (ha : small a) (hb : small b) (h : small (a + b)) : addR (rep a) (rep b) = (rep (a + b), 0) := by
  unfold addR; rw [opR_rep ha hb, qv_rep, qv_rep, fitR_ok h]
theorem sub_rep {a b : Rat} (ha : small a) (hb : small b) (h : small (a - b)) : subR (rep a) (rep b) = (rep (a - b), 0) := by
  unfold subR; rw [opR_rep ha hb, qv_rep, qv_rep, fitR_ok h]
theorem mul_rep {a b : Rat} (ha : small a) (hb : small b) (h : small (a * b)) : mulR (rep a) (rep b) = (rep (a * b), 0) := by
  unfold mulR; rw [opR_rep ha hb, qv_rep, qv_rep, fitR_ok h]
theorem rep_num_nil {b : Rat} : (rep b).num = [] ↔ b = 0 := by
  constructor
  · intro h
    have : nv (rep b).num = b.num.natAbs := nv_lim _
    rw [h] at this
    have h0 : b.num = 0 := by
      have : (0 : Nat) = b.num.natAbs := this
      omega
    exact Rat.num_eq_zero.1 h0
  · rintro rfl; rfl
theorem div_rep {a b : Rat} (ha : small a) (hb : small b) (h0 : b ≠ 0) (h : small (a / b)) : divR (rep a) (rep b) = (rep (a / b), 0) := by
  unfold divR; rw [opR_rep ha hb, if_neg (fun e => h0 (rep_num_nil.1 e)), qv_rep, qv_rep, fitR_ok h]
theorem div_rep0 {a : Rat} (ha : small a) : divR (rep a) (rep 0) = (zR, 14) := by
  unfold divR; rw [opR_rep ha (by decide), if_pos (rep_num_nil.2 rfl)]
theorem neg_rep {a : Rat} (ha : small a) : negR (rep a) = (rep (-a), 0) := by
  unfold negR; rw [if_pos (chk_rep ha), qv_rep]

end Go.Proofs.YthkfkfbfblppeaaGreat

/- Walk of Cmp of layer 6 (written by mkcmp.py). Conditions: as each states. -/
namespace Go.Proofs.YthkfkfbfblppeaaGreat
set_option linter.unusedSimpArgs false
set_option linter.unusedVariables false
open Go.RowKit

/-- A state of a region on the way. -/
theorem wpAnyH_via {P : Program} {md : Region.Mode} {ops : Array Oper} {Q : Exit → Act → World → Prop} {S : World → Prop} {fuel : Nat} {listed : Array Bool} {a : Act} {w : World} (f2 : Nat) (L2 : Array Bool) (F : Act → World → Prop)
    (h2 : ∀ a w, F a w → wpAnyH P md ops Q S f2 L2 a w) (h1 : (∀ a w, F a w → wpAnyH P md ops Q S f2 L2 a w) → wpAnyH P md ops Q S fuel listed a w) : wpAnyH P md ops Q S fuel listed a w := h1 h2

theorem vq_sign {x : Bool × Nat × Nat} (h : x.2.2 ≠ 0) : (x.2.1 = 0 → vq x = 0) ∧ (x.2.1 ≠ 0 → (x.1 = true → vq x < 0) ∧ (x.1 = false → 0 < vq x)) := by
  obtain ⟨s, n, d⟩ := x
  dsimp only at h ⊢
  refine ⟨?_, fun hn => ?_⟩
  · rintro rfl
    unfold vq
    have : sg s 0 = 0 := by cases s <;> rfl
    dsimp only
    rw [this, Rat.zero_mkRat]
  · have hl := low_spec s hn h
    have h1 := congrArg RR.neg hl
    have h2 : decide ((vq (s, n, d)).num < 0) = s := h1
    have h3 : vq (s, n, d) ≠ 0 := by
      intro e
      have h4 := congrArg RR.num hl
      have h5 : lim (vq (s, n, d)).num.natAbs = lim (n / Nat.gcd n d) := h4
      rw [e] at h5
      have h6 := congrArg nv h5
      rw [nv_lim, nv_lim] at h6
      have := Nat.div_gcd_pos_of_pos_left d (Nat.pos_of_ne_zero hn)
      have h7 : (0 : Rat).num.natAbs = 0 := rfl
      omega
    constructor
    · rintro rfl
      have h4 : (vq (true, n, d)).num < 0 := by simpa using h2
      refine Rat.not_le.1 fun h5 => ?_
      have := Rat.num_nonneg.2 h5
      omega
    · rintro rfl
      have h4 : ¬ (vq (false, n, d)).num < 0 := by simpa using h2
      have h5 : 0 ≤ vq (false, n, d) := Rat.num_nonneg.1 (by omega)
      refine Rat.not_le.1 fun h6 => h3 (Rat.le_antisymm h6 h5)

theorem cmp_sub (x y : Rat) : (x - y = 0 → cmpQ x y = 0) ∧ (x - y < 0 → cmpQ x y = -1) ∧ (0 < x - y → cmpQ x y = 1) := by
  have h0 : x - y = 0 ↔ x = y := by
    constructor
    · intro h
      have : x - y + y = 0 + y := by rw [h]
      rwa [Rat.sub_add_cancel, Rat.zero_add] at this
    · rintro rfl
      exact Rat.sub_self
  have h1 : x - y < 0 ↔ x < y := by
    have := Rat.add_lt_add_right (a := x - y) (b := 0) (c := y)
    rw [Rat.sub_add_cancel, Rat.zero_add] at this
    exact this.symm
  have hi : ∀ z : Rat, ¬ z < z := fun _ => Rat.lt_irrefl
  refine ⟨fun h => ?_, fun h => ?_, fun h => ?_⟩
  · have e := h0.1 h
    unfold cmpQ
    rw [if_neg (by rw [e]; exact hi _), if_pos e]
  · unfold cmpQ
    rw [if_pos (h1.1 h)]
  · have n1 : ¬ x - y < 0 := Rat.not_lt.2 (Rat.le_of_lt h)
    have n2 : ¬ x - y = 0 := fun e => by rw [e] at h; exact hi _ h
    unfold cmpQ
    rw [if_neg (fun g => n1 (h1.2 g)), if_neg (fun g => n2 (h0.2 g))]

set_option maxHeartbeats 8000000 in
theorem cmpR_any (va vb : Value) (ra rb : RR) (w : World) (ha : RdR w va ra) (hb : RdR w vb rb) (la : LimR ra) (lb : LimR rb) :
    Calls Tryz.prog 156 #[va, vb] w fun e w' => e = .returned (.tuple #[.int .i64 (cmpR ra rb).1, .int .i64 (cmpR ra rb).2]) ∧ Ext w w' := by
  have HCA := Lib.hid (chk_at ha la); have HCB := Lib.hid (chk_at hb lb)
  have HA := Lib.hid ha; have HB := Lib.hid hb
  obtain ⟨a1, c1, a2, c2, rfl⟩ := ha.shape
  obtain ⟨a3, c3, a4, c4, rfl⟩ := hb.shape
  obtain ⟨s1, l1, l2⟩ := ra
  obtain ⟨s2, l3, l4⟩ := rb
  dsimp only at HCA HCB HA HB ⊢
  clear ha hb
  have b0 := (Blk.new w #[.bool s1, .slice a1 l1.length c1, .slice a2 l2.length c2] 62).alloc (.cells #[.bool s2, .slice a3 l3.length c3, .slice a4 l4.length c4] 62)
  have b1 := Blk.new (w.alloc (.cells #[.bool s1, .slice a1 l1.length c1, .slice a2 l2.length c2] 62)) #[.bool s2, .slice a3 l3.length c3, .slice a4 l4.length c4] 62
  rw [World.size_alloc] at b1
  have x0 : Ext w ((w.alloc (.cells #[.bool s1, .slice a1 l1.length c1, .slice a2 l2.length c2] 62)).alloc (.cells #[.bool s2, .slice a3 l3.length c3, .slice a4 l4.length c4] 62)) := ((Ext.refl w).alloc _).alloc _
  have A0 := Lib.hid b0; have A1 := Lib.hid b1
  clear b0 b1
  by_cases hc : chkR2 ⟨s1, l1, l2⟩ ⟨s2, l3, l4⟩ = 0
  · obtain ⟨hca, hcb⟩ := chkR2_0 hc
    have eo : cmpR ⟨s1, l1, l2⟩ ⟨s2, l3, l4⟩ = (cmpQ (qv ⟨s1, l1, l2⟩) (qv ⟨s2, l3, l4⟩), 0) := by unfold cmpR; rw [if_pos hc]
    obtain ⟨p1, p2, p3, p4, p5, p6⟩ := valid_len la hca
    obtain ⟨q1, q2, q3, q4, q5, q6⟩ := valid_len lb hcb
    have hsub : vq (sumV (vod ⟨s1, l1, l2⟩) (!s2, nv l3, nv (dl l4))) = qv ⟨s1, l1, l2⟩ - qv ⟨s2, l3, l4⟩ := by
      rw [vq_sum p5 q5, vod_vof, vq_vof, vq_neg, Rat.sub_eq_add_neg]
      congr 2
      have := vod_vof ⟨s2, l3, l4⟩
      exact congrArg vq this
    have hden : (sumV (vod ⟨s1, l1, l2⟩) (!s2, nv l3, nv (dl l4))).2.2 ≠ 0 := by rw [sumV_den]; exact Nat.mul_ne_zero p5 q5
    have hsg0 := vq_sign hden
    rw [hsub] at hsg0
    obtain ⟨k0, km, kp⟩ := cmp_sub (qv ⟨s1, l1, l2⟩) (qv ⟨s2, l3, l4⟩)
    have hsg : ((sumV (vod ⟨s1, l1, l2⟩) (!s2, nv l3, nv (dl l4))).2.1 = 0 → cmpR ⟨s1, l1, l2⟩ ⟨s2, l3, l4⟩ = (0, 0)) ∧ ((sumV (vod ⟨s1, l1, l2⟩) (!s2, nv l3, nv (dl l4))).2.1 ≠ 0 → ((sumV (vod ⟨s1, l1, l2⟩) (!s2, nv l3, nv (dl l4))).1 = true → cmpR ⟨s1, l1, l2⟩ ⟨s2, l3, l4⟩ = (-1, 0)) ∧ ((sumV (vod ⟨s1, l1, l2⟩) (!s2, nv l3, nv (dl l4))).1 = false → cmpR ⟨s1, l1, l2⟩ ⟨s2, l3, l4⟩ = (1, 0))) :=
      ⟨fun h => by rw [eo, k0 (hsg0.1 h)], fun h => ⟨fun g => by rw [eo, km ((hsg0.2 h).1 g)], fun g => by rw [eo, kp ((hsg0.2 h).2 g)]⟩⟩
    have hsum := fun W va vb h1 h2 => sumR_any va vb s1 (!s2) l1 (dl l2) l3 (dl l4) W h1 h2 la.1 p6 lb.1 q6 p3 p4 q3 q4 (Nat.le_trans p1 (by decide)) (Nat.le_trans p2 (by decide)) (Nat.le_trans q1 (by decide)) (Nat.le_trans q2 (by decide))
    dsimp only [vod] at hsg hden
    obtain ⟨TT, hTT⟩ : ∃ TT, TT = sumV (s1, nv l1, nv (dl l2)) (!s2, nv l3, nv (dl l4)) := ⟨_, rfl⟩
    rw [← hTT] at hsg hsum
    have HSG := Lib.hid hsg; have HSUM := Lib.hid hsum
    rw [hca] at HCA
    rw [hcb] at HCB
    clear hc hca hcb eo la lb p1 p2 p3 p4 p5 p6 q1 q2 q3 q4 q5 q6 hsub hden hsg hsum hTT hsg0 k0 km kp
    go_enter Tryz.func156, Tryz.ntmps156
    go_wp2_with fail
    have hmx : Tryz.prog.follows .mixedOrders = true := by kernel_rfl
    go_region_held3 (fun W => (Blk W w.heap.size #[.bool s1, .slice a1 l1.length c1, .slice a2 l2.length c2] 62 ∧ W.cell? ⟨w.heap.size, 0, none⟩ = some (.bool s1) ∧ W.cell? ⟨w.heap.size, 1, none⟩ = some (.slice a1 l1.length c1) ∧ W.cell? ⟨w.heap.size, 2, none⟩ = some (.slice a2 l2.length c2)) ∧ (Blk W (w.heap.size + 1) #[.bool s2, .slice a3 l3.length c3, .slice a4 l4.length c4] 62 ∧ W.cell? ⟨w.heap.size + 1, 0, none⟩ = some (.bool s2) ∧ W.cell? ⟨w.heap.size + 1, 1, none⟩ = some (.slice a3 l3.length c3) ∧ W.cell? ⟨w.heap.size + 1, 2, none⟩ = some (.slice a4 l4.length c4)))
      ((refine ⟨Blk.s3 ?_, Blk.s3 ?_⟩ <;> (repeat (first | exact A0.out | exact A1.out | exact k1 | exact k2 | exact k4 | exact k5 | exact k7 | exact k8 | refine Blk.setOther ?_ (by dsimp only; omega) _ | refine Blk.alloc ?_ _ | refine Blk.drew ?_))))
      (first | (go_at_call_of 154 (Value.slice a1 l1.length c1); refine (HCA.out _ (by (repeat (first | (with_reducible exact Ext.refl _) | (with_reducible assumption) | (with_reducible refine Ext.alloc ?_ _) | ((with_reducible refine Ext.setp ?_ ?_); focus (dsimp only; omega)) | (with_reducible refine Ext.drew ?_) | (with_reducible refine Ext.drewN ?_ _) | (with_reducible refine Ext.trans ?_ (by assumption)))))).mono ?_; rintro e W4 ⟨rfl, hx4⟩; have x4 := Ext.trans x0 (Ext.trans (by (repeat (first | (with_reducible exact Ext.refl _) | (with_reducible assumption) | (with_reducible refine Ext.alloc ?_ _) | ((with_reducible refine Ext.setp ?_ ?_); focus (dsimp only; omega)) | (with_reducible refine Ext.drew ?_) | (with_reducible refine Ext.drewN ?_ _) | (with_reducible refine Ext.trans ?_ (by assumption))))) hx4); have k1 := A0.out.ext (Ext.trans (by (repeat (first | (with_reducible exact Ext.refl _) | (with_reducible assumption) | (with_reducible refine Ext.alloc ?_ _) | ((with_reducible refine Ext.setp ?_ ?_); focus (dsimp only; omega)) | (with_reducible refine Ext.drew ?_) | (with_reducible refine Ext.drewN ?_ _) | (with_reducible refine Ext.trans ?_ (by assumption))))) hx4); have k2 := A1.out.ext (Ext.trans (by (repeat (first | (with_reducible exact Ext.refl _) | (with_reducible assumption) | (with_reducible refine Ext.alloc ?_ _) | ((with_reducible refine Ext.setp ?_ ?_); focus (dsimp only; omega)) | (with_reducible refine Ext.drew ?_) | (with_reducible refine Ext.drewN ?_ _) | (with_reducible refine Ext.trans ?_ (by assumption))))) hx4)) | (go_at_call_of 154 (Value.slice a3 l3.length c3); refine (HCB.out _ (by (repeat (first | (with_reducible exact Ext.refl _) | (with_reducible assumption) | (with_reducible refine Ext.alloc ?_ _) | ((with_reducible refine Ext.setp ?_ ?_); focus (dsimp only; omega)) | (with_reducible refine Ext.drew ?_) | (with_reducible refine Ext.drewN ?_ _) | (with_reducible refine Ext.trans ?_ (by assumption)))))).mono ?_; rintro e W5 ⟨rfl, hx5⟩; have x5 := x4.trans hx5; have k4 := k1.ext hx5; have k5 := k2.ext hx5) | (go_at_call 186; refine (orE_any _ _ _ _ (Blk.new W5 _ _)).mono ?_; rintro e W6 ⟨rfl, hx6⟩; have x6 := (x5.alloc _).trans hx6; have k7 := (k4.alloc _).ext hx6; have k8 := (k5.alloc _).ext hx6))
    have G6 := Lib.hid k7; have H6 := Lib.hid k8; have X6 := Lib.hid x6
    clear k1 k2 k4 k5 k7 k8 hx4 hx5 hx6 x4 x5 x6 A0 A1 x0
    go_wp2_with fail
    have hoa := fun W (x : Ext w W) => ofR_any _ _ W (HA.out.ext x)
    have hob := fun W (x : Ext w W) => ofR_any _ _ W (HB.out.ext x)
    dsimp only at hoa hob
    have HOA := Lib.hid hoa; have HOB := Lib.hid hob
    have lt6 := H6.out.lt
    clear hoa hob
    refine wp_region_held_drew (S := (fun W => (Blk W w.heap.size #[.bool s1, .slice a1 l1.length c1, .slice a2 l2.length c2] 62 ∧ W.cell? ⟨w.heap.size, 0, none⟩ = some (.bool s1) ∧ W.cell? ⟨w.heap.size, 1, none⟩ = some (.slice a1 l1.length c1) ∧ W.cell? ⟨w.heap.size, 2, none⟩ = some (.slice a2 l2.length c2)) ∧ (Blk W (w.heap.size + 1) #[.bool s2, .slice a3 l3.length c3, .slice a4 l4.length c4] 62 ∧ W.cell? ⟨w.heap.size + 1, 0, none⟩ = some (.bool s2) ∧ W.cell? ⟨w.heap.size + 1, 1, none⟩ = some (.slice a3 l3.length c3) ∧ W.cell? ⟨w.heap.size + 1, 2, none⟩ = some (.slice a4 l4.length c4)))) (by kernel_rfl) ?_ (fun hHeld => ?_)
    · exact ⟨Blk.s3 G6.out.drew, Blk.s3 H6.out.drew⟩
    refine wpAnyH_take (i := 0) (v := ?_) rfl (by kernel_rfl) (by kernel_rfl) (by kernel_rfl) (fun _ _ _ h => h) (Or.inl ⟨by rfl, ?_⟩) (by assumption) ?_
    rotate_left
    · (intro w hSw; (try dsimp only at hSw); go_simp; first | done | with_reducible rfl)
    (try simp only [Act.put, List.setIfInBounds_toArray, List.set_cons_zero, List.set_cons_succ])
    refine wpAnyH_take (i := 2) (v := ?_) rfl (by kernel_rfl) (by kernel_rfl) (by kernel_rfl) (fun _ _ _ h => h) (Or.inl ⟨by rfl, ?_⟩) (by assumption) ?_
    rotate_left
    · (intro w hSw; (try dsimp only at hSw); go_simp; first | done | with_reducible rfl)
    (try simp only [Act.put, List.setIfInBounds_toArray, List.set_cons_zero, List.set_cons_succ])
    refine wpAnyH_via 2 #[true, true, true, true, true, true, false, false] (fun a W => ∃ (y6 y14 y15 y16 y17 : Value) (a5 : Option Addr) (c5 : Nat) (a6 : Option Addr) (c6 : Nat) (a7 : Option Addr) (c7 : Nat) (a8 : Option Addr) (c8 : Nat) (p7 : Nat) (p8 : Nat), a = ⟨#[.agg #[.bool s1, .slice a1 l1.length c1, .slice a2 l2.length c2], .agg #[.bool s2, .slice a3 l3.length c3, .slice a4 l4.length c4], .pointer (some ⟨w.heap.size, 0, none⟩), .pointer (some ⟨w.heap.size + 1, 0, none⟩), .int .i64 0, .int .i64 0, y6, .pointer (some ⟨p7, 0, none⟩), .pointer (some ⟨p8, 0, none⟩), undef, .agg #[.bool s1, .slice a1 l1.length c1, .slice a2 l2.length c2], .int .i64 0, .agg #[.bool s2, .slice a3 l3.length c3, .slice a4 l4.length c4], .int .i64 0, y14, y15, y16, y17, undef, .agg #[.bool s1, .slice a1 l1.length c1, .slice a2 l2.length c2], .agg #[.slice a5 l1.length c5, .slice a6 (dl l2).length c6, .bool s1], .agg #[.bool s2, .slice a3 l3.length c3, .slice a4 l4.length c4], .agg #[.slice a7 l3.length c7, .slice a8 (dl l4).length c8, .bool s2], undef, undef, undef, undef, undef, undef, undef, undef, undef, undef, undef, undef, undef, undef, undef, undef], []⟩ ∧ Ext W6 W ∧ Blk W w.heap.size #[.bool s1, .slice a1 l1.length c1, .slice a2 l2.length c2] 62 ∧ Blk W (w.heap.size + 1) #[.bool s2, .slice a3 l3.length c3, .slice a4 l4.length c4] 62 ∧ RdI .u32 W (.slice a5 l1.length c5) l1 ∧ RdI .u32 W (.slice a6 (dl l2).length c6) (dl l2) ∧ RdI .u32 W (.slice a7 l3.length c7) l3 ∧ RdI .u32 W (.slice a8 (dl l4).length c8) (dl l4) ∧ Blk W p7 #[.slice none 0 0, .slice none 0 0, .bool false] 216 ∧ w.heap.size + 1 < p7 ∧ Blk W p8 #[.slice none 0 0, .slice none 0 0, .bool false] 216 ∧ w.heap.size + 1 < p8 ∧ p7 ≠ p8) ?_ (fun Hc1c3a4a5 => ?_)
    · rintro a W ⟨y6, y14, y15, y16, y17, a5, c5, a6, c6, a7, c7, a8, c8, p7, p8, rfl, x, g2, g3, n1, d1, n2, d2, z7, i7, z8, i8, ne⟩
      have k7 := z7.cell; have f7 := z7.free; have l7 := z7.lt; have k8 := z8.cell; have f8 := z8.free; have l8 := z8.lt
      have b7 : Blk (((W.setCell ⟨p7, 0, none⟩ (.slice a5 l1.length c5)).setCell ⟨p7, 1, none⟩ (.slice a6 (dl l2).length c6)).setCell ⟨p7, 2, none⟩ (.bool s1)) p7 #[.slice a5 l1.length c5, .slice a6 (dl l2).length c6, .bool s1] 216 := by have := (((z7).set 0 (.slice a5 l1.length c5)).set 1 (.slice a6 (dl l2).length c6)).set 2 (.bool s1); simpa using this
      have e8 : Blk (((W.setCell ⟨p7, 0, none⟩ (.slice a5 l1.length c5)).setCell ⟨p7, 1, none⟩ (.slice a6 (dl l2).length c6)).setCell ⟨p7, 2, none⟩ (.bool s1)) p8 #[.slice none 0 0, .slice none 0 0, .bool false] 216 := (((z8.setOther (a := ⟨p7, 0, none⟩) (by dsimp only; omega) (.slice a5 l1.length c5)).setOther (a := ⟨p7, 1, none⟩) (by dsimp only; omega) (.slice a6 (dl l2).length c6)).setOther (a := ⟨p7, 2, none⟩) (by dsimp only; omega) (.bool s1))
      have h2 := (((g2.setOther (a := ⟨p7, 0, none⟩) (by dsimp only; omega) (.slice a5 l1.length c5)).setOther (a := ⟨p7, 1, none⟩) (by dsimp only; omega) (.slice a6 (dl l2).length c6)).setOther (a := ⟨p7, 2, none⟩) (by dsimp only; omega) (.bool s1))
      have h3 := (((g3.setOther (a := ⟨p7, 0, none⟩) (by dsimp only; omega) (.slice a5 l1.length c5)).setOther (a := ⟨p7, 1, none⟩) (by dsimp only; omega) (.slice a6 (dl l2).length c6)).setOther (a := ⟨p7, 2, none⟩) (by dsimp only; omega) (.bool s1))
      have n1a := rdI_set3 n1 z7 (by intro x hx n; rcases (by simpa using hx) with rfl | rfl | rfl <;> simp) (.slice a5 l1.length c5) (.slice a6 (dl l2).length c6) (.bool s1) (by simp) (by simp)
      have d1a := rdI_set3 d1 z7 (by intro x hx n; rcases (by simpa using hx) with rfl | rfl | rfl <;> simp) (.slice a5 l1.length c5) (.slice a6 (dl l2).length c6) (.bool s1) (by simp) (by simp)
      have n2a := rdI_set3 n2 z7 (by intro x hx n; rcases (by simpa using hx) with rfl | rfl | rfl <;> simp) (.slice a5 l1.length c5) (.slice a6 (dl l2).length c6) (.bool s1) (by simp) (by simp)
      have d2a := rdI_set3 d2 z7 (by intro x hx n; rcases (by simpa using hx) with rfl | rfl | rfl <;> simp) (.slice a5 l1.length c5) (.slice a6 (dl l2).length c6) (.bool s1) (by simp) (by simp)
      skip
      refine wpAnyH_ready (rs := [6]) (by kernel_rfl) (by simp) ?_
      refine AllReadyH.cons rfl (fun K hK => ?_) ?_
      rotate_left
      · exact AllReadyH.nil
      go_simp
      first | refine hK.out _ _ ?_ (fun hHeld => ?_) | (go_wp2_with fail; refine hK.out _ _ ?_ (fun hHeld => ?_))
      · exact ⟨Blk.s3 h2, Blk.s3 h3⟩
      clear hK K hHeld k7 f7 l7 k8 f8 l8
      (try simp only [Act.put, List.setIfInBounds_toArray, List.set_cons_zero, List.set_cons_succ])
      have k8 := e8.cell; have f8 := e8.free; have l8 := e8.lt
      refine wpAnyH_ready (rs := [7]) (by kernel_rfl) (by simp) ?_
      refine AllReadyH.cons rfl (fun K hK => ?_) ?_
      rotate_left
      · exact AllReadyH.nil
      go_simp
      first | refine hK.out _ _ ?_ (fun hHeld => ?_) | (go_wp2_with fail; refine hK.out _ _ ?_ (fun hHeld => ?_))
      · exact ⟨Blk.s3 ((((h2.setOther (a := ⟨p8, 0, none⟩) (by dsimp only; omega) (.slice a7 l3.length c7)).setOther (a := ⟨p8, 1, none⟩) (by dsimp only; omega) (.slice a8 (dl l4).length c8)).setOther (a := ⟨p8, 2, none⟩) (by dsimp only; omega) (.bool s2))), Blk.s3 ((((h3.setOther (a := ⟨p8, 0, none⟩) (by dsimp only; omega) (.slice a7 l3.length c7)).setOther (a := ⟨p8, 1, none⟩) (by dsimp only; omega) (.slice a8 (dl l4).length c8)).setOther (a := ⟨p8, 2, none⟩) (by dsimp only; omega) (.bool s2)))⟩
      (try simp only [Act.put, List.setIfInBounds_toArray, List.set_cons_zero, List.set_cons_succ])
      refine wpAnyH_done (by kernel_rfl) ?_ _
      clear hK K hHeld k8 f8 l8 h2 h3
      have b7b : Blk ((((((W.setCell ⟨p7, 0, none⟩ (.slice a5 l1.length c5)).setCell ⟨p7, 1, none⟩ (.slice a6 (dl l2).length c6)).setCell ⟨p7, 2, none⟩ (.bool s1)).setCell ⟨p8, 0, none⟩ (.slice a7 l3.length c7)).setCell ⟨p8, 1, none⟩ (.slice a8 (dl l4).length c8)).setCell ⟨p8, 2, none⟩ (.bool s2)) p7 #[.slice a5 l1.length c5, .slice a6 (dl l2).length c6, .bool s1] 216 := (((b7.setOther (a := ⟨p8, 0, none⟩) (by dsimp only; omega) (.slice a7 l3.length c7)).setOther (a := ⟨p8, 1, none⟩) (by dsimp only; omega) (.slice a8 (dl l4).length c8)).setOther (a := ⟨p8, 2, none⟩) (by dsimp only; omega) (.bool s2))
      have b8b : Blk ((((((W.setCell ⟨p7, 0, none⟩ (.slice a5 l1.length c5)).setCell ⟨p7, 1, none⟩ (.slice a6 (dl l2).length c6)).setCell ⟨p7, 2, none⟩ (.bool s1)).setCell ⟨p8, 0, none⟩ (.slice a7 l3.length c7)).setCell ⟨p8, 1, none⟩ (.slice a8 (dl l4).length c8)).setCell ⟨p8, 2, none⟩ (.bool s2)) p8 #[.slice a7 l3.length c7, .slice a8 (dl l4).length c8, .bool s2] 216 := by have := (((e8).set 0 (.slice a7 l3.length c7)).set 1 (.slice a8 (dl l4).length c8)).set 2 (.bool s2); simpa using this
      have n1b := rdI_set3 n1a e8 (by intro x hx n; rcases (by simpa using hx) with rfl | rfl | rfl <;> simp) (.slice a7 l3.length c7) (.slice a8 (dl l4).length c8) (.bool s2) (by simp) (by simp)
      have d1b := rdI_set3 d1a e8 (by intro x hx n; rcases (by simpa using hx) with rfl | rfl | rfl <;> simp) (.slice a7 l3.length c7) (.slice a8 (dl l4).length c8) (.bool s2) (by simp) (by simp)
      have n2b := rdI_set3 n2a e8 (by intro x hx n; rcases (by simpa using hx) with rfl | rfl | rfl <;> simp) (.slice a7 l3.length c7) (.slice a8 (dl l4).length c8) (.bool s2) (by simp) (by simp)
      have d2b := rdI_set3 d2a e8 (by intro x hx n; rcases (by simpa using hx) with rfl | rfl | rfl <;> simp) (.slice a7 l3.length c7) (.slice a8 (dl l4).length c8) (.bool s2) (by simp) (by simp)
      have xb : Ext w ((((((W.setCell ⟨p7, 0, none⟩ (.slice a5 l1.length c5)).setCell ⟨p7, 1, none⟩ (.slice a6 (dl l2).length c6)).setCell ⟨p7, 2, none⟩ (.bool s1)).setCell ⟨p8, 0, none⟩ (.slice a7 l3.length c7)).setCell ⟨p8, 1, none⟩ (.slice a8 (dl l4).length c8)).setCell ⟨p8, 2, none⟩ (.bool s2)) := by have x1 := X6.out.trans x; (repeat (first | (with_reducible exact Ext.refl _) | (with_reducible assumption) | (with_reducible refine Ext.alloc ?_ _) | ((with_reducible refine Ext.setp ?_ ?_); focus (dsimp only; omega)) | (with_reducible refine Ext.drew ?_) | (with_reducible refine Ext.drewN ?_ _) | (with_reducible refine Ext.trans ?_ (by assumption))))
      obtain ⟨Wz, hWz⟩ : ∃ Wz, Wz = ((((((W.setCell ⟨p7, 0, none⟩ (.slice a5 l1.length c5)).setCell ⟨p7, 1, none⟩ (.slice a6 (dl l2).length c6)).setCell ⟨p7, 2, none⟩ (.bool s1)).setCell ⟨p8, 0, none⟩ (.slice a7 l3.length c7)).setCell ⟨p8, 1, none⟩ (.slice a8 (dl l4).length c8)).setCell ⟨p8, 2, none⟩ (.bool s2)) := ⟨_, rfl⟩
      rw [← hWz] at b7b b8b n1b d1b n2b d2b xb ⊢
      have B7 := Lib.hid b7b; have B8 := Lib.hid b8b; have M1 := Lib.hid n1b; have M2 := Lib.hid d1b; have M3 := Lib.hid n2b; have M4 := Lib.hid d2b; have XZ := Lib.hid xb
      clear hWz b7b b8b n1b d1b n2b d2b xb b7 e8 n1 d1 n2 d2 n1a d1a n2a d2a z7 z8 g2 g3 x
      have k8 := B8.out.cell; have f8 := B8.out.free; have l8 := B8.out.lt; have k7 := B7.out.cell; have l7 := B7.out.lt
      go_wp2_with fail
      have hr1 := HSUM.out (Wz.setCell ⟨p8, 2, none⟩ (.bool (!s2))) _ _ ⟨_, _, rfl, rdI_setBlk M1.out B8.out (by intro x hx n; rcases (by simpa using hx) with rfl | rfl | rfl <;> simp) 2 (.bool (!s2)), rdI_setBlk M2.out B8.out (by intro x hx n; rcases (by simpa using hx) with rfl | rfl | rfl <;> simp) 2 (.bool (!s2))⟩ ⟨_, _, rfl, rdI_setBlk M3.out B8.out (by intro x hx n; rcases (by simpa using hx) with rfl | rfl | rfl <;> simp) 2 (.bool (!s2)), rdI_setBlk M4.out B8.out (by intro x hx n; rcases (by simpa using hx) with rfl | rfl | rfl <;> simp) 2 (.bool (!s2))⟩
      refine hr1.mono ?_
      clear hr1 k8 f8 l8 k7 l7
      rintro e W9 ⟨⟨v, rfl, vn, vd, rfl, hn, hd⟩, hx⟩
      obtain ⟨a9, c9, rfl⟩ := rdU_shape hn
      obtain ⟨a10, c10, rfl⟩ := rdU_shape hd
      have X9 := Lib.hid ((XZ.out.set (p := ⟨p8, 2, none⟩) (by dsimp only; omega) (.bool (!s2))).trans hx)
      clear hn hd hx
      obtain ⟨tb, tn, td⟩ := TT
      dsimp only at HSG ⊢
      obtain ⟨z1, z2⟩ := HSG.out
      by_cases h0 : tn = 0
      · have r1 := z1 h0
        have q1 : (((lim tn).length : Int) == 0) = true := by rw [h0]; rfl
        have R1 := Lib.hid r1
        clear z1 z2 r1 h0
        go_wp2_with fail
        go_ret2
        exact ⟨by rw [R1.out]; rfl, by have := X9.out; (repeat (first | (with_reducible exact Ext.refl _) | (with_reducible assumption) | (with_reducible refine Ext.alloc ?_ _) | ((with_reducible refine Ext.setp ?_ ?_); focus (dsimp only; omega)) | (with_reducible refine Ext.drew ?_) | (with_reducible refine Ext.drewN ?_ _) | (with_reducible refine Ext.trans ?_ (by assumption))))⟩
      · obtain ⟨z3, z4⟩ := z2 h0
        have q1 : (((lim tn).length : Int) == 0) = false := by
          have : lim tn ≠ [] := fun e => h0 (by rw [← nv_lim tn, e]; rfl)
          have := List.length_pos_iff.2 this
          simp only [beq_eq_false_iff_ne]; omega
        cases tb
        · have R1 := Lib.hid (z4 rfl)
          clear z1 z2 z3 z4 h0
          go_wp2_with fail
          go_ret2
          exact ⟨by rw [R1.out]; rfl, by have := X9.out; (repeat (first | (with_reducible exact Ext.refl _) | (with_reducible assumption) | (with_reducible refine Ext.alloc ?_ _) | ((with_reducible refine Ext.setp ?_ ?_); focus (dsimp only; omega)) | (with_reducible refine Ext.drew ?_) | (with_reducible refine Ext.drewN ?_ _) | (with_reducible refine Ext.trans ?_ (by assumption))))⟩
        · have R1 := Lib.hid (z3 rfl)
          clear z1 z2 z3 z4 h0
          go_wp2_with fail
          go_ret2
          exact ⟨by rw [R1.out]; rfl, by have := X9.out; (repeat (first | (with_reducible exact Ext.refl _) | (with_reducible assumption) | (with_reducible refine Ext.alloc ?_ _) | ((with_reducible refine Ext.setp ?_ ?_); focus (dsimp only; omega)) | (with_reducible refine Ext.drew ?_) | (with_reducible refine Ext.drewN ?_ _) | (with_reducible refine Ext.trans ?_ (by assumption))))⟩
    refine wpAnyH_via 3 #[true, true, true, false, true, true, false, false] (fun a W => ∃ (y6 y14 y15 y16 y17 : Value) (a5 : Option Addr) (c5 : Nat) (a6 : Option Addr) (c6 : Nat) (p7 : Nat) (p8 : Nat), a = ⟨#[.agg #[.bool s1, .slice a1 l1.length c1, .slice a2 l2.length c2], .agg #[.bool s2, .slice a3 l3.length c3, .slice a4 l4.length c4], .pointer (some ⟨w.heap.size, 0, none⟩), .pointer (some ⟨w.heap.size + 1, 0, none⟩), .int .i64 0, .int .i64 0, y6, .pointer (some ⟨p7, 0, none⟩), .pointer (some ⟨p8, 0, none⟩), undef, .agg #[.bool s1, .slice a1 l1.length c1, .slice a2 l2.length c2], .int .i64 0, .agg #[.bool s2, .slice a3 l3.length c3, .slice a4 l4.length c4], .int .i64 0, y14, y15, y16, y17, undef, .agg #[.bool s1, .slice a1 l1.length c1, .slice a2 l2.length c2], .agg #[.slice a5 l1.length c5, .slice a6 (dl l2).length c6, .bool s1], .agg #[.bool s2, .slice a3 l3.length c3, .slice a4 l4.length c4], undef, undef, undef, undef, undef, undef, undef, undef, undef, undef, undef, undef, undef, undef, undef, undef, undef], []⟩ ∧ Ext W6 W ∧ Blk W w.heap.size #[.bool s1, .slice a1 l1.length c1, .slice a2 l2.length c2] 62 ∧ Blk W (w.heap.size + 1) #[.bool s2, .slice a3 l3.length c3, .slice a4 l4.length c4] 62 ∧ RdI .u32 W (.slice a5 l1.length c5) l1 ∧ RdI .u32 W (.slice a6 (dl l2).length c6) (dl l2) ∧ Blk W p7 #[.slice none 0 0, .slice none 0 0, .bool false] 216 ∧ w.heap.size + 1 < p7 ∧ Blk W p8 #[.slice none 0 0, .slice none 0 0, .bool false] 216 ∧ w.heap.size + 1 < p8 ∧ p7 ≠ p8) ?_ (fun Hc1a4a5 => ?_)
    · rintro a W ⟨y6, y14, y15, y16, y17, a5, c5, a6, c6, p7, p8, rfl, x, g2, g3, n1, d1, z7, i7, z8, i8, ne⟩
      refine wpAnyH_ready (rs := [3]) (by kernel_rfl) (by simp) ?_
      refine AllReadyH.cons rfl (fun K hK => ?_) ?_
      · go_simp
        refine (HOB.out _ (X6.out.trans x)).mono ?_
        rintro e W2 ⟨⟨v, rfl, vn, vd, rfl, n2, d2⟩, hx⟩
        obtain ⟨a7, c7, rfl⟩ := rdU_shape n2
        obtain ⟨a8, c8, rfl⟩ := rdU_shape d2
        first | refine hK.out _ _ ?_ (fun hHeld => ?_) | (go_wp2_with fail; refine hK.out _ _ ?_ (fun hHeld => ?_))
        · exact ⟨Blk.s3 (g2.ext hx), Blk.s3 (g3.ext hx)⟩
        (try simp only [Act.put, List.setIfInBounds_toArray, List.set_cons_zero, List.set_cons_succ])
        exact Hc1c3a4a5 _ _ ⟨_, _, _, _, _, _, _, _, _, _, _, _, _, _, _, rfl, x.trans hx, g2.ext hx, g3.ext hx, n1.ext hx, d1.ext hx, n2, d2, z7.ext hx, i7, z8.ext hx, i8, ne⟩
      exact AllReadyH.nil
    refine wpAnyH_via 3 #[true, true, true, true, true, false, false, false] (fun a W => ∃ (y6 y14 y15 y16 y17 : Value) (a5 : Option Addr) (c5 : Nat) (a6 : Option Addr) (c6 : Nat) (a7 : Option Addr) (c7 : Nat) (a8 : Option Addr) (c8 : Nat) (p7 : Nat), a = ⟨#[.agg #[.bool s1, .slice a1 l1.length c1, .slice a2 l2.length c2], .agg #[.bool s2, .slice a3 l3.length c3, .slice a4 l4.length c4], .pointer (some ⟨w.heap.size, 0, none⟩), .pointer (some ⟨w.heap.size + 1, 0, none⟩), .int .i64 0, .int .i64 0, y6, .pointer (some ⟨p7, 0, none⟩), undef, undef, .agg #[.bool s1, .slice a1 l1.length c1, .slice a2 l2.length c2], .int .i64 0, .agg #[.bool s2, .slice a3 l3.length c3, .slice a4 l4.length c4], .int .i64 0, y14, y15, y16, y17, undef, .agg #[.bool s1, .slice a1 l1.length c1, .slice a2 l2.length c2], .agg #[.slice a5 l1.length c5, .slice a6 (dl l2).length c6, .bool s1], .agg #[.bool s2, .slice a3 l3.length c3, .slice a4 l4.length c4], .agg #[.slice a7 l3.length c7, .slice a8 (dl l4).length c8, .bool s2], undef, undef, undef, undef, undef, undef, undef, undef, undef, undef, undef, undef, undef, undef, undef, undef], []⟩ ∧ Ext W6 W ∧ Blk W w.heap.size #[.bool s1, .slice a1 l1.length c1, .slice a2 l2.length c2] 62 ∧ Blk W (w.heap.size + 1) #[.bool s2, .slice a3 l3.length c3, .slice a4 l4.length c4] 62 ∧ RdI .u32 W (.slice a5 l1.length c5) l1 ∧ RdI .u32 W (.slice a6 (dl l2).length c6) (dl l2) ∧ RdI .u32 W (.slice a7 l3.length c7) l3 ∧ RdI .u32 W (.slice a8 (dl l4).length c8) (dl l4) ∧ Blk W p7 #[.slice none 0 0, .slice none 0 0, .bool false] 216 ∧ w.heap.size + 1 < p7) ?_ (fun Hc1c3a4 => ?_)
    · rintro a W ⟨y6, y14, y15, y16, y17, a5, c5, a6, c6, a7, c7, a8, c8, p7, rfl, x, g2, g3, n1, d1, n2, d2, z7, i7⟩
      refine wpAnyH_ready (rs := [5]) (by kernel_rfl) (by simp) ?_
      refine AllReadyH.cons rfl (fun K hK => ?_) ?_
      · go_simp
        first | refine hK.out _ _ ?_ (fun hHeld => ?_) | (go_wp2_with fail; refine hK.out _ _ ?_ (fun hHeld => ?_))
        · exact ⟨Blk.s3 (g2.alloc _), Blk.s3 (g3.alloc _)⟩
        (try simp only [Act.put, List.setIfInBounds_toArray, List.set_cons_zero, List.set_cons_succ])
        exact Hc1c3a4a5 _ _ ⟨_, _, _, _, _, _, _, _, _, _, _, _, _, _, _, rfl, x.alloc _, g2.alloc _, g3.alloc _, n1.ext ((Ext.refl _).alloc _), d1.ext ((Ext.refl _).alloc _), n2.ext ((Ext.refl _).alloc _), d2.ext ((Ext.refl _).alloc _), z7.alloc _, i7, Blk.new _ _ _, (by have := x.size; omega), (by have := z7.lt; omega)⟩
      exact AllReadyH.nil
    refine wpAnyH_via 3 #[true, true, true, true, false, true, false, false] (fun a W => ∃ (y6 y14 y15 y16 y17 : Value) (a5 : Option Addr) (c5 : Nat) (a6 : Option Addr) (c6 : Nat) (a7 : Option Addr) (c7 : Nat) (a8 : Option Addr) (c8 : Nat) (p8 : Nat), a = ⟨#[.agg #[.bool s1, .slice a1 l1.length c1, .slice a2 l2.length c2], .agg #[.bool s2, .slice a3 l3.length c3, .slice a4 l4.length c4], .pointer (some ⟨w.heap.size, 0, none⟩), .pointer (some ⟨w.heap.size + 1, 0, none⟩), .int .i64 0, .int .i64 0, y6, undef, .pointer (some ⟨p8, 0, none⟩), undef, .agg #[.bool s1, .slice a1 l1.length c1, .slice a2 l2.length c2], .int .i64 0, .agg #[.bool s2, .slice a3 l3.length c3, .slice a4 l4.length c4], .int .i64 0, y14, y15, y16, y17, undef, .agg #[.bool s1, .slice a1 l1.length c1, .slice a2 l2.length c2], .agg #[.slice a5 l1.length c5, .slice a6 (dl l2).length c6, .bool s1], .agg #[.bool s2, .slice a3 l3.length c3, .slice a4 l4.length c4], .agg #[.slice a7 l3.length c7, .slice a8 (dl l4).length c8, .bool s2], undef, undef, undef, undef, undef, undef, undef, undef, undef, undef, undef, undef, undef, undef, undef, undef], []⟩ ∧ Ext W6 W ∧ Blk W w.heap.size #[.bool s1, .slice a1 l1.length c1, .slice a2 l2.length c2] 62 ∧ Blk W (w.heap.size + 1) #[.bool s2, .slice a3 l3.length c3, .slice a4 l4.length c4] 62 ∧ RdI .u32 W (.slice a5 l1.length c5) l1 ∧ RdI .u32 W (.slice a6 (dl l2).length c6) (dl l2) ∧ RdI .u32 W (.slice a7 l3.length c7) l3 ∧ RdI .u32 W (.slice a8 (dl l4).length c8) (dl l4) ∧ Blk W p8 #[.slice none 0 0, .slice none 0 0, .bool false] 216 ∧ w.heap.size + 1 < p8) ?_ (fun Hc1c3a5 => ?_)
    · rintro a W ⟨y6, y14, y15, y16, y17, a5, c5, a6, c6, a7, c7, a8, c8, p8, rfl, x, g2, g3, n1, d1, n2, d2, z8, i8⟩
      refine wpAnyH_ready (rs := [4]) (by kernel_rfl) (by simp) ?_
      refine AllReadyH.cons rfl (fun K hK => ?_) ?_
      · go_simp
        first | refine hK.out _ _ ?_ (fun hHeld => ?_) | (go_wp2_with fail; refine hK.out _ _ ?_ (fun hHeld => ?_))
        · exact ⟨Blk.s3 (g2.alloc _), Blk.s3 (g3.alloc _)⟩
        (try simp only [Act.put, List.setIfInBounds_toArray, List.set_cons_zero, List.set_cons_succ])
        exact Hc1c3a4a5 _ _ ⟨_, _, _, _, _, _, _, _, _, _, _, _, _, _, _, rfl, x.alloc _, g2.alloc _, g3.alloc _, n1.ext ((Ext.refl _).alloc _), d1.ext ((Ext.refl _).alloc _), n2.ext ((Ext.refl _).alloc _), d2.ext ((Ext.refl _).alloc _), Blk.new _ _ _, (by have := x.size; omega), z8.alloc _, i8, (by have := z8.lt; omega)⟩
      exact AllReadyH.nil
    refine wpAnyH_via 4 #[true, false, true, false, true, true, false, false] (fun a W => ∃ (y6 y14 y15 y16 y17 : Value) (p7 : Nat) (p8 : Nat), a = ⟨#[.agg #[.bool s1, .slice a1 l1.length c1, .slice a2 l2.length c2], .agg #[.bool s2, .slice a3 l3.length c3, .slice a4 l4.length c4], .pointer (some ⟨w.heap.size, 0, none⟩), .pointer (some ⟨w.heap.size + 1, 0, none⟩), .int .i64 0, .int .i64 0, y6, .pointer (some ⟨p7, 0, none⟩), .pointer (some ⟨p8, 0, none⟩), undef, .agg #[.bool s1, .slice a1 l1.length c1, .slice a2 l2.length c2], .int .i64 0, .agg #[.bool s2, .slice a3 l3.length c3, .slice a4 l4.length c4], .int .i64 0, y14, y15, y16, y17, undef, .agg #[.bool s1, .slice a1 l1.length c1, .slice a2 l2.length c2], undef, .agg #[.bool s2, .slice a3 l3.length c3, .slice a4 l4.length c4], undef, undef, undef, undef, undef, undef, undef, undef, undef, undef, undef, undef, undef, undef, undef, undef, undef], []⟩ ∧ Ext W6 W ∧ Blk W w.heap.size #[.bool s1, .slice a1 l1.length c1, .slice a2 l2.length c2] 62 ∧ Blk W (w.heap.size + 1) #[.bool s2, .slice a3 l3.length c3, .slice a4 l4.length c4] 62 ∧ Blk W p7 #[.slice none 0 0, .slice none 0 0, .bool false] 216 ∧ w.heap.size + 1 < p7 ∧ Blk W p8 #[.slice none 0 0, .slice none 0 0, .bool false] 216 ∧ w.heap.size + 1 < p8 ∧ p7 ≠ p8) ?_ (fun Ha4a5 => ?_)
    · rintro a W ⟨y6, y14, y15, y16, y17, p7, p8, rfl, x, g2, g3, z7, i7, z8, i8, ne⟩
      refine wpAnyH_ready (rs := [1]) (by kernel_rfl) (by simp) ?_
      refine AllReadyH.cons rfl (fun K hK => ?_) ?_
      · go_simp
        refine (HOA.out _ (X6.out.trans x)).mono ?_
        rintro e W2 ⟨⟨v, rfl, vn, vd, rfl, n1, d1⟩, hx⟩
        obtain ⟨a5, c5, rfl⟩ := rdU_shape n1
        obtain ⟨a6, c6, rfl⟩ := rdU_shape d1
        first | refine hK.out _ _ ?_ (fun hHeld => ?_) | (go_wp2_with fail; refine hK.out _ _ ?_ (fun hHeld => ?_))
        · exact ⟨Blk.s3 (g2.ext hx), Blk.s3 (g3.ext hx)⟩
        (try simp only [Act.put, List.setIfInBounds_toArray, List.set_cons_zero, List.set_cons_succ])
        exact Hc1a4a5 _ _ ⟨_, _, _, _, _, _, _, _, _, _, _, rfl, x.trans hx, g2.ext hx, g3.ext hx, n1, d1, z7.ext hx, i7, z8.ext hx, i8, ne⟩
      exact AllReadyH.nil
    refine wpAnyH_via 4 #[true, true, true, false, true, false, false, false] (fun a W => ∃ (y6 y14 y15 y16 y17 : Value) (a5 : Option Addr) (c5 : Nat) (a6 : Option Addr) (c6 : Nat) (p7 : Nat), a = ⟨#[.agg #[.bool s1, .slice a1 l1.length c1, .slice a2 l2.length c2], .agg #[.bool s2, .slice a3 l3.length c3, .slice a4 l4.length c4], .pointer (some ⟨w.heap.size, 0, none⟩), .pointer (some ⟨w.heap.size + 1, 0, none⟩), .int .i64 0, .int .i64 0, y6, .pointer (some ⟨p7, 0, none⟩), undef, undef, .agg #[.bool s1, .slice a1 l1.length c1, .slice a2 l2.length c2], .int .i64 0, .agg #[.bool s2, .slice a3 l3.length c3, .slice a4 l4.length c4], .int .i64 0, y14, y15, y16, y17, undef, .agg #[.bool s1, .slice a1 l1.length c1, .slice a2 l2.length c2], .agg #[.slice a5 l1.length c5, .slice a6 (dl l2).length c6, .bool s1], .agg #[.bool s2, .slice a3 l3.length c3, .slice a4 l4.length c4], undef, undef, undef, undef, undef, undef, undef, undef, undef, undef, undef, undef, undef, undef, undef, undef, undef], []⟩ ∧ Ext W6 W ∧ Blk W w.heap.size #[.bool s1, .slice a1 l1.length c1, .slice a2 l2.length c2] 62 ∧ Blk W (w.heap.size + 1) #[.bool s2, .slice a3 l3.length c3, .slice a4 l4.length c4] 62 ∧ RdI .u32 W (.slice a5 l1.length c5) l1 ∧ RdI .u32 W (.slice a6 (dl l2).length c6) (dl l2) ∧ Blk W p7 #[.slice none 0 0, .slice none 0 0, .bool false] 216 ∧ w.heap.size + 1 < p7) ?_ (fun Hc1a4 => ?_)
    · rintro a W ⟨y6, y14, y15, y16, y17, a5, c5, a6, c6, p7, rfl, x, g2, g3, n1, d1, z7, i7⟩
      refine wpAnyH_ready (rs := [3, 5]) (by kernel_rfl) (by simp) ?_
      refine AllReadyH.cons rfl (fun K hK => ?_) ?_
      · go_simp
        refine (HOB.out _ (X6.out.trans x)).mono ?_
        rintro e W2 ⟨⟨v, rfl, vn, vd, rfl, n2, d2⟩, hx⟩
        obtain ⟨a7, c7, rfl⟩ := rdU_shape n2
        obtain ⟨a8, c8, rfl⟩ := rdU_shape d2
        first | refine hK.out _ _ ?_ (fun hHeld => ?_) | (go_wp2_with fail; refine hK.out _ _ ?_ (fun hHeld => ?_))
        · exact ⟨Blk.s3 (g2.ext hx), Blk.s3 (g3.ext hx)⟩
        (try simp only [Act.put, List.setIfInBounds_toArray, List.set_cons_zero, List.set_cons_succ])
        exact Hc1c3a4 _ _ ⟨_, _, _, _, _, _, _, _, _, _, _, _, _, _, rfl, x.trans hx, g2.ext hx, g3.ext hx, n1.ext hx, d1.ext hx, n2, d2, z7.ext hx, i7⟩
      refine AllReadyH.cons rfl (fun K hK => ?_) ?_
      · go_simp
        first | refine hK.out _ _ ?_ (fun hHeld => ?_) | (go_wp2_with fail; refine hK.out _ _ ?_ (fun hHeld => ?_))
        · exact ⟨Blk.s3 (g2.alloc _), Blk.s3 (g3.alloc _)⟩
        (try simp only [Act.put, List.setIfInBounds_toArray, List.set_cons_zero, List.set_cons_succ])
        exact Hc1a4a5 _ _ ⟨_, _, _, _, _, _, _, _, _, _, _, rfl, x.alloc _, g2.alloc _, g3.alloc _, n1.ext ((Ext.refl _).alloc _), d1.ext ((Ext.refl _).alloc _), z7.alloc _, i7, Blk.new _ _ _, (by have := x.size; omega), (by have := z7.lt; omega)⟩
      exact AllReadyH.nil
    refine wpAnyH_via 4 #[true, true, true, false, false, true, false, false] (fun a W => ∃ (y6 y14 y15 y16 y17 : Value) (a5 : Option Addr) (c5 : Nat) (a6 : Option Addr) (c6 : Nat) (p8 : Nat), a = ⟨#[.agg #[.bool s1, .slice a1 l1.length c1, .slice a2 l2.length c2], .agg #[.bool s2, .slice a3 l3.length c3, .slice a4 l4.length c4], .pointer (some ⟨w.heap.size, 0, none⟩), .pointer (some ⟨w.heap.size + 1, 0, none⟩), .int .i64 0, .int .i64 0, y6, undef, .pointer (some ⟨p8, 0, none⟩), undef, .agg #[.bool s1, .slice a1 l1.length c1, .slice a2 l2.length c2], .int .i64 0, .agg #[.bool s2, .slice a3 l3.length c3, .slice a4 l4.length c4], .int .i64 0, y14, y15, y16, y17, undef, .agg #[.bool s1, .slice a1 l1.length c1, .slice a2 l2.length c2], .agg #[.slice a5 l1.length c5, .slice a6 (dl l2).length c6, .bool s1], .agg #[.bool s2, .slice a3 l3.length c3, .slice a4 l4.length c4], undef, undef, undef, undef, undef, undef, undef, undef, undef, undef, undef, undef, undef, undef, undef, undef, undef], []⟩ ∧ Ext W6 W ∧ Blk W w.heap.size #[.bool s1, .slice a1 l1.length c1, .slice a2 l2.length c2] 62 ∧ Blk W (w.heap.size + 1) #[.bool s2, .slice a3 l3.length c3, .slice a4 l4.length c4] 62 ∧ RdI .u32 W (.slice a5 l1.length c5) l1 ∧ RdI .u32 W (.slice a6 (dl l2).length c6) (dl l2) ∧ Blk W p8 #[.slice none 0 0, .slice none 0 0, .bool false] 216 ∧ w.heap.size + 1 < p8) ?_ (fun Hc1a5 => ?_)
    · rintro a W ⟨y6, y14, y15, y16, y17, a5, c5, a6, c6, p8, rfl, x, g2, g3, n1, d1, z8, i8⟩
      refine wpAnyH_ready (rs := [3, 4]) (by kernel_rfl) (by simp) ?_
      refine AllReadyH.cons rfl (fun K hK => ?_) ?_
      · go_simp
        refine (HOB.out _ (X6.out.trans x)).mono ?_
        rintro e W2 ⟨⟨v, rfl, vn, vd, rfl, n2, d2⟩, hx⟩
        obtain ⟨a7, c7, rfl⟩ := rdU_shape n2
        obtain ⟨a8, c8, rfl⟩ := rdU_shape d2
        first | refine hK.out _ _ ?_ (fun hHeld => ?_) | (go_wp2_with fail; refine hK.out _ _ ?_ (fun hHeld => ?_))
        · exact ⟨Blk.s3 (g2.ext hx), Blk.s3 (g3.ext hx)⟩
        (try simp only [Act.put, List.setIfInBounds_toArray, List.set_cons_zero, List.set_cons_succ])
        exact Hc1c3a5 _ _ ⟨_, _, _, _, _, _, _, _, _, _, _, _, _, _, rfl, x.trans hx, g2.ext hx, g3.ext hx, n1.ext hx, d1.ext hx, n2, d2, z8.ext hx, i8⟩
      refine AllReadyH.cons rfl (fun K hK => ?_) ?_
      · go_simp
        first | refine hK.out _ _ ?_ (fun hHeld => ?_) | (go_wp2_with fail; refine hK.out _ _ ?_ (fun hHeld => ?_))
        · exact ⟨Blk.s3 (g2.alloc _), Blk.s3 (g3.alloc _)⟩
        (try simp only [Act.put, List.setIfInBounds_toArray, List.set_cons_zero, List.set_cons_succ])
        exact Hc1a4a5 _ _ ⟨_, _, _, _, _, _, _, _, _, _, _, rfl, x.alloc _, g2.alloc _, g3.alloc _, n1.ext ((Ext.refl _).alloc _), d1.ext ((Ext.refl _).alloc _), Blk.new _ _ _, (by have := x.size; omega), z8.alloc _, i8, (by have := z8.lt; omega)⟩
      exact AllReadyH.nil
    refine wpAnyH_via 4 #[true, true, true, true, false, false, false, false] (fun a W => ∃ (y6 y14 y15 y16 y17 : Value) (a5 : Option Addr) (c5 : Nat) (a6 : Option Addr) (c6 : Nat) (a7 : Option Addr) (c7 : Nat) (a8 : Option Addr) (c8 : Nat), a = ⟨#[.agg #[.bool s1, .slice a1 l1.length c1, .slice a2 l2.length c2], .agg #[.bool s2, .slice a3 l3.length c3, .slice a4 l4.length c4], .pointer (some ⟨w.heap.size, 0, none⟩), .pointer (some ⟨w.heap.size + 1, 0, none⟩), .int .i64 0, .int .i64 0, y6, undef, undef, undef, .agg #[.bool s1, .slice a1 l1.length c1, .slice a2 l2.length c2], .int .i64 0, .agg #[.bool s2, .slice a3 l3.length c3, .slice a4 l4.length c4], .int .i64 0, y14, y15, y16, y17, undef, .agg #[.bool s1, .slice a1 l1.length c1, .slice a2 l2.length c2], .agg #[.slice a5 l1.length c5, .slice a6 (dl l2).length c6, .bool s1], .agg #[.bool s2, .slice a3 l3.length c3, .slice a4 l4.length c4], .agg #[.slice a7 l3.length c7, .slice a8 (dl l4).length c8, .bool s2], undef, undef, undef, undef, undef, undef, undef, undef, undef, undef, undef, undef, undef, undef, undef, undef], []⟩ ∧ Ext W6 W ∧ Blk W w.heap.size #[.bool s1, .slice a1 l1.length c1, .slice a2 l2.length c2] 62 ∧ Blk W (w.heap.size + 1) #[.bool s2, .slice a3 l3.length c3, .slice a4 l4.length c4] 62 ∧ RdI .u32 W (.slice a5 l1.length c5) l1 ∧ RdI .u32 W (.slice a6 (dl l2).length c6) (dl l2) ∧ RdI .u32 W (.slice a7 l3.length c7) l3 ∧ RdI .u32 W (.slice a8 (dl l4).length c8) (dl l4)) ?_ (fun Hc1c3 => ?_)
    · rintro a W ⟨y6, y14, y15, y16, y17, a5, c5, a6, c6, a7, c7, a8, c8, rfl, x, g2, g3, n1, d1, n2, d2⟩
      refine wpAnyH_ready (rs := [4, 5]) (by kernel_rfl) (by simp) ?_
      refine AllReadyH.cons rfl (fun K hK => ?_) ?_
      · go_simp
        first | refine hK.out _ _ ?_ (fun hHeld => ?_) | (go_wp2_with fail; refine hK.out _ _ ?_ (fun hHeld => ?_))
        · exact ⟨Blk.s3 (g2.alloc _), Blk.s3 (g3.alloc _)⟩
        (try simp only [Act.put, List.setIfInBounds_toArray, List.set_cons_zero, List.set_cons_succ])
        exact Hc1c3a4 _ _ ⟨_, _, _, _, _, _, _, _, _, _, _, _, _, _, rfl, x.alloc _, g2.alloc _, g3.alloc _, n1.ext ((Ext.refl _).alloc _), d1.ext ((Ext.refl _).alloc _), n2.ext ((Ext.refl _).alloc _), d2.ext ((Ext.refl _).alloc _), Blk.new _ _ _, (by have := x.size; omega)⟩
      refine AllReadyH.cons rfl (fun K hK => ?_) ?_
      · go_simp
        first | refine hK.out _ _ ?_ (fun hHeld => ?_) | (go_wp2_with fail; refine hK.out _ _ ?_ (fun hHeld => ?_))
        · exact ⟨Blk.s3 (g2.alloc _), Blk.s3 (g3.alloc _)⟩
        (try simp only [Act.put, List.setIfInBounds_toArray, List.set_cons_zero, List.set_cons_succ])
        exact Hc1c3a5 _ _ ⟨_, _, _, _, _, _, _, _, _, _, _, _, _, _, rfl, x.alloc _, g2.alloc _, g3.alloc _, n1.ext ((Ext.refl _).alloc _), d1.ext ((Ext.refl _).alloc _), n2.ext ((Ext.refl _).alloc _), d2.ext ((Ext.refl _).alloc _), Blk.new _ _ _, (by have := x.size; omega)⟩
      exact AllReadyH.nil
    refine wpAnyH_via 5 #[true, false, true, false, true, false, false, false] (fun a W => ∃ (y6 y14 y15 y16 y17 : Value) (p7 : Nat), a = ⟨#[.agg #[.bool s1, .slice a1 l1.length c1, .slice a2 l2.length c2], .agg #[.bool s2, .slice a3 l3.length c3, .slice a4 l4.length c4], .pointer (some ⟨w.heap.size, 0, none⟩), .pointer (some ⟨w.heap.size + 1, 0, none⟩), .int .i64 0, .int .i64 0, y6, .pointer (some ⟨p7, 0, none⟩), undef, undef, .agg #[.bool s1, .slice a1 l1.length c1, .slice a2 l2.length c2], .int .i64 0, .agg #[.bool s2, .slice a3 l3.length c3, .slice a4 l4.length c4], .int .i64 0, y14, y15, y16, y17, undef, .agg #[.bool s1, .slice a1 l1.length c1, .slice a2 l2.length c2], undef, .agg #[.bool s2, .slice a3 l3.length c3, .slice a4 l4.length c4], undef, undef, undef, undef, undef, undef, undef, undef, undef, undef, undef, undef, undef, undef, undef, undef, undef], []⟩ ∧ Ext W6 W ∧ Blk W w.heap.size #[.bool s1, .slice a1 l1.length c1, .slice a2 l2.length c2] 62 ∧ Blk W (w.heap.size + 1) #[.bool s2, .slice a3 l3.length c3, .slice a4 l4.length c4] 62 ∧ Blk W p7 #[.slice none 0 0, .slice none 0 0, .bool false] 216 ∧ w.heap.size + 1 < p7) ?_ (fun Ha4 => ?_)
    · rintro a W ⟨y6, y14, y15, y16, y17, p7, rfl, x, g2, g3, z7, i7⟩
      refine wpAnyH_ready (rs := [1, 5]) (by kernel_rfl) (by simp) ?_
      refine AllReadyH.cons rfl (fun K hK => ?_) ?_
      · go_simp
        refine (HOA.out _ (X6.out.trans x)).mono ?_
        rintro e W2 ⟨⟨v, rfl, vn, vd, rfl, n1, d1⟩, hx⟩
        obtain ⟨a5, c5, rfl⟩ := rdU_shape n1
        obtain ⟨a6, c6, rfl⟩ := rdU_shape d1
        first | refine hK.out _ _ ?_ (fun hHeld => ?_) | (go_wp2_with fail; refine hK.out _ _ ?_ (fun hHeld => ?_))
        · exact ⟨Blk.s3 (g2.ext hx), Blk.s3 (g3.ext hx)⟩
        (try simp only [Act.put, List.setIfInBounds_toArray, List.set_cons_zero, List.set_cons_succ])
        exact Hc1a4 _ _ ⟨_, _, _, _, _, _, _, _, _, _, rfl, x.trans hx, g2.ext hx, g3.ext hx, n1, d1, z7.ext hx, i7⟩
      refine AllReadyH.cons rfl (fun K hK => ?_) ?_
      · go_simp
        first | refine hK.out _ _ ?_ (fun hHeld => ?_) | (go_wp2_with fail; refine hK.out _ _ ?_ (fun hHeld => ?_))
        · exact ⟨Blk.s3 (g2.alloc _), Blk.s3 (g3.alloc _)⟩
        (try simp only [Act.put, List.setIfInBounds_toArray, List.set_cons_zero, List.set_cons_succ])
        exact Ha4a5 _ _ ⟨_, _, _, _, _, _, _, rfl, x.alloc _, g2.alloc _, g3.alloc _, z7.alloc _, i7, Blk.new _ _ _, (by have := x.size; omega), (by have := z7.lt; omega)⟩
      exact AllReadyH.nil
    refine wpAnyH_via 5 #[true, false, true, false, false, true, false, false] (fun a W => ∃ (y6 y14 y15 y16 y17 : Value) (p8 : Nat), a = ⟨#[.agg #[.bool s1, .slice a1 l1.length c1, .slice a2 l2.length c2], .agg #[.bool s2, .slice a3 l3.length c3, .slice a4 l4.length c4], .pointer (some ⟨w.heap.size, 0, none⟩), .pointer (some ⟨w.heap.size + 1, 0, none⟩), .int .i64 0, .int .i64 0, y6, undef, .pointer (some ⟨p8, 0, none⟩), undef, .agg #[.bool s1, .slice a1 l1.length c1, .slice a2 l2.length c2], .int .i64 0, .agg #[.bool s2, .slice a3 l3.length c3, .slice a4 l4.length c4], .int .i64 0, y14, y15, y16, y17, undef, .agg #[.bool s1, .slice a1 l1.length c1, .slice a2 l2.length c2], undef, .agg #[.bool s2, .slice a3 l3.length c3, .slice a4 l4.length c4], undef, undef, undef, undef, undef, undef, undef, undef, undef, undef, undef, undef, undef, undef, undef, undef, undef], []⟩ ∧ Ext W6 W ∧ Blk W w.heap.size #[.bool s1, .slice a1 l1.length c1, .slice a2 l2.length c2] 62 ∧ Blk W (w.heap.size + 1) #[.bool s2, .slice a3 l3.length c3, .slice a4 l4.length c4] 62 ∧ Blk W p8 #[.slice none 0 0, .slice none 0 0, .bool false] 216 ∧ w.heap.size + 1 < p8) ?_ (fun Ha5 => ?_)
    · rintro a W ⟨y6, y14, y15, y16, y17, p8, rfl, x, g2, g3, z8, i8⟩
      refine wpAnyH_ready (rs := [1, 4]) (by kernel_rfl) (by simp) ?_
      refine AllReadyH.cons rfl (fun K hK => ?_) ?_
      · go_simp
        refine (HOA.out _ (X6.out.trans x)).mono ?_
        rintro e W2 ⟨⟨v, rfl, vn, vd, rfl, n1, d1⟩, hx⟩
        obtain ⟨a5, c5, rfl⟩ := rdU_shape n1
        obtain ⟨a6, c6, rfl⟩ := rdU_shape d1
        first | refine hK.out _ _ ?_ (fun hHeld => ?_) | (go_wp2_with fail; refine hK.out _ _ ?_ (fun hHeld => ?_))
        · exact ⟨Blk.s3 (g2.ext hx), Blk.s3 (g3.ext hx)⟩
        (try simp only [Act.put, List.setIfInBounds_toArray, List.set_cons_zero, List.set_cons_succ])
        exact Hc1a5 _ _ ⟨_, _, _, _, _, _, _, _, _, _, rfl, x.trans hx, g2.ext hx, g3.ext hx, n1, d1, z8.ext hx, i8⟩
      refine AllReadyH.cons rfl (fun K hK => ?_) ?_
      · go_simp
        first | refine hK.out _ _ ?_ (fun hHeld => ?_) | (go_wp2_with fail; refine hK.out _ _ ?_ (fun hHeld => ?_))
        · exact ⟨Blk.s3 (g2.alloc _), Blk.s3 (g3.alloc _)⟩
        (try simp only [Act.put, List.setIfInBounds_toArray, List.set_cons_zero, List.set_cons_succ])
        exact Ha4a5 _ _ ⟨_, _, _, _, _, _, _, rfl, x.alloc _, g2.alloc _, g3.alloc _, Blk.new _ _ _, (by have := x.size; omega), z8.alloc _, i8, (by have := z8.lt; omega)⟩
      exact AllReadyH.nil
    refine wpAnyH_via 5 #[true, true, true, false, false, false, false, false] (fun a W => ∃ (y6 y14 y15 y16 y17 : Value) (a5 : Option Addr) (c5 : Nat) (a6 : Option Addr) (c6 : Nat), a = ⟨#[.agg #[.bool s1, .slice a1 l1.length c1, .slice a2 l2.length c2], .agg #[.bool s2, .slice a3 l3.length c3, .slice a4 l4.length c4], .pointer (some ⟨w.heap.size, 0, none⟩), .pointer (some ⟨w.heap.size + 1, 0, none⟩), .int .i64 0, .int .i64 0, y6, undef, undef, undef, .agg #[.bool s1, .slice a1 l1.length c1, .slice a2 l2.length c2], .int .i64 0, .agg #[.bool s2, .slice a3 l3.length c3, .slice a4 l4.length c4], .int .i64 0, y14, y15, y16, y17, undef, .agg #[.bool s1, .slice a1 l1.length c1, .slice a2 l2.length c2], .agg #[.slice a5 l1.length c5, .slice a6 (dl l2).length c6, .bool s1], .agg #[.bool s2, .slice a3 l3.length c3, .slice a4 l4.length c4], undef, undef, undef, undef, undef, undef, undef, undef, undef, undef, undef, undef, undef, undef, undef, undef, undef], []⟩ ∧ Ext W6 W ∧ Blk W w.heap.size #[.bool s1, .slice a1 l1.length c1, .slice a2 l2.length c2] 62 ∧ Blk W (w.heap.size + 1) #[.bool s2, .slice a3 l3.length c3, .slice a4 l4.length c4] 62 ∧ RdI .u32 W (.slice a5 l1.length c5) l1 ∧ RdI .u32 W (.slice a6 (dl l2).length c6) (dl l2)) ?_ (fun Hc1 => ?_)
    · rintro a W ⟨y6, y14, y15, y16, y17, a5, c5, a6, c6, rfl, x, g2, g3, n1, d1⟩
      refine wpAnyH_ready (rs := [3, 4, 5]) (by kernel_rfl) (by simp) ?_
      refine AllReadyH.cons rfl (fun K hK => ?_) ?_
      · go_simp
        refine (HOB.out _ (X6.out.trans x)).mono ?_
        rintro e W2 ⟨⟨v, rfl, vn, vd, rfl, n2, d2⟩, hx⟩
        obtain ⟨a7, c7, rfl⟩ := rdU_shape n2
        obtain ⟨a8, c8, rfl⟩ := rdU_shape d2
        first | refine hK.out _ _ ?_ (fun hHeld => ?_) | (go_wp2_with fail; refine hK.out _ _ ?_ (fun hHeld => ?_))
        · exact ⟨Blk.s3 (g2.ext hx), Blk.s3 (g3.ext hx)⟩
        (try simp only [Act.put, List.setIfInBounds_toArray, List.set_cons_zero, List.set_cons_succ])
        exact Hc1c3 _ _ ⟨_, _, _, _, _, _, _, _, _, _, _, _, _, rfl, x.trans hx, g2.ext hx, g3.ext hx, n1.ext hx, d1.ext hx, n2, d2⟩
      refine AllReadyH.cons rfl (fun K hK => ?_) ?_
      · go_simp
        first | refine hK.out _ _ ?_ (fun hHeld => ?_) | (go_wp2_with fail; refine hK.out _ _ ?_ (fun hHeld => ?_))
        · exact ⟨Blk.s3 (g2.alloc _), Blk.s3 (g3.alloc _)⟩
        (try simp only [Act.put, List.setIfInBounds_toArray, List.set_cons_zero, List.set_cons_succ])
        exact Hc1a4 _ _ ⟨_, _, _, _, _, _, _, _, _, _, rfl, x.alloc _, g2.alloc _, g3.alloc _, n1.ext ((Ext.refl _).alloc _), d1.ext ((Ext.refl _).alloc _), Blk.new _ _ _, (by have := x.size; omega)⟩
      refine AllReadyH.cons rfl (fun K hK => ?_) ?_
      · go_simp
        first | refine hK.out _ _ ?_ (fun hHeld => ?_) | (go_wp2_with fail; refine hK.out _ _ ?_ (fun hHeld => ?_))
        · exact ⟨Blk.s3 (g2.alloc _), Blk.s3 (g3.alloc _)⟩
        (try simp only [Act.put, List.setIfInBounds_toArray, List.set_cons_zero, List.set_cons_succ])
        exact Hc1a5 _ _ ⟨_, _, _, _, _, _, _, _, _, _, rfl, x.alloc _, g2.alloc _, g3.alloc _, n1.ext ((Ext.refl _).alloc _), d1.ext ((Ext.refl _).alloc _), Blk.new _ _ _, (by have := x.size; omega)⟩
      exact AllReadyH.nil
    refine wpAnyH_via 6 #[true, false, true, false, false, false, false, false] (fun a W => ∃ (y6 y14 y15 y16 y17 : Value), a = ⟨#[.agg #[.bool s1, .slice a1 l1.length c1, .slice a2 l2.length c2], .agg #[.bool s2, .slice a3 l3.length c3, .slice a4 l4.length c4], .pointer (some ⟨w.heap.size, 0, none⟩), .pointer (some ⟨w.heap.size + 1, 0, none⟩), .int .i64 0, .int .i64 0, y6, undef, undef, undef, .agg #[.bool s1, .slice a1 l1.length c1, .slice a2 l2.length c2], .int .i64 0, .agg #[.bool s2, .slice a3 l3.length c3, .slice a4 l4.length c4], .int .i64 0, y14, y15, y16, y17, undef, .agg #[.bool s1, .slice a1 l1.length c1, .slice a2 l2.length c2], undef, .agg #[.bool s2, .slice a3 l3.length c3, .slice a4 l4.length c4], undef, undef, undef, undef, undef, undef, undef, undef, undef, undef, undef, undef, undef, undef, undef, undef, undef], []⟩ ∧ Ext W6 W ∧ Blk W w.heap.size #[.bool s1, .slice a1 l1.length c1, .slice a2 l2.length c2] 62 ∧ Blk W (w.heap.size + 1) #[.bool s2, .slice a3 l3.length c3, .slice a4 l4.length c4] 62) ?_ (fun Hnone => ?_)
    · rintro a W ⟨y6, y14, y15, y16, y17, rfl, x, g2, g3⟩
      refine wpAnyH_ready (rs := [1, 4, 5]) (by kernel_rfl) (by simp) ?_
      refine AllReadyH.cons rfl (fun K hK => ?_) ?_
      · go_simp
        refine (HOA.out _ (X6.out.trans x)).mono ?_
        rintro e W2 ⟨⟨v, rfl, vn, vd, rfl, n1, d1⟩, hx⟩
        obtain ⟨a5, c5, rfl⟩ := rdU_shape n1
        obtain ⟨a6, c6, rfl⟩ := rdU_shape d1
        first | refine hK.out _ _ ?_ (fun hHeld => ?_) | (go_wp2_with fail; refine hK.out _ _ ?_ (fun hHeld => ?_))
        · exact ⟨Blk.s3 (g2.ext hx), Blk.s3 (g3.ext hx)⟩
        (try simp only [Act.put, List.setIfInBounds_toArray, List.set_cons_zero, List.set_cons_succ])
        exact Hc1 _ _ ⟨_, _, _, _, _, _, _, _, _, rfl, x.trans hx, g2.ext hx, g3.ext hx, n1, d1⟩
      refine AllReadyH.cons rfl (fun K hK => ?_) ?_
      · go_simp
        first | refine hK.out _ _ ?_ (fun hHeld => ?_) | (go_wp2_with fail; refine hK.out _ _ ?_ (fun hHeld => ?_))
        · exact ⟨Blk.s3 (g2.alloc _), Blk.s3 (g3.alloc _)⟩
        (try simp only [Act.put, List.setIfInBounds_toArray, List.set_cons_zero, List.set_cons_succ])
        exact Ha4 _ _ ⟨_, _, _, _, _, _, rfl, x.alloc _, g2.alloc _, g3.alloc _, Blk.new _ _ _, (by have := x.size; omega)⟩
      refine AllReadyH.cons rfl (fun K hK => ?_) ?_
      · go_simp
        first | refine hK.out _ _ ?_ (fun hHeld => ?_) | (go_wp2_with fail; refine hK.out _ _ ?_ (fun hHeld => ?_))
        · exact ⟨Blk.s3 (g2.alloc _), Blk.s3 (g3.alloc _)⟩
        (try simp only [Act.put, List.setIfInBounds_toArray, List.set_cons_zero, List.set_cons_succ])
        exact Ha5 _ _ ⟨_, _, _, _, _, _, rfl, x.alloc _, g2.alloc _, g3.alloc _, Blk.new _ _ _, (by have := x.size; omega)⟩
      exact AllReadyH.nil
    exact Hnone _ _ ⟨_, _, _, _, _, rfl, (Ext.refl W6).drew, G6.out.drew, H6.out.drew⟩
  · have e : cmpR ⟨s1, l1, l2⟩ ⟨s2, l3, l4⟩ = (0, chkR2 ⟨s1, l1, l2⟩ ⟨s2, l3, l4⟩) := by unfold cmpR; rw [if_neg hc]
    obtain ⟨ca, hca⟩ : ∃ ca, ca = chkR ⟨s1, l1, l2⟩ := ⟨_, rfl⟩
    obtain ⟨cb, hcb⟩ : ∃ cb, cb = chkR ⟨s2, l3, l4⟩ := ⟨_, rfl⟩
    have hcc : chkR2 ⟨s1, l1, l2⟩ ⟨s2, l3, l4⟩ = orE ca cb := by unfold chkR2; rw [hca, hcb]
    rw [hcc] at e hc
    rw [← hca] at HCA
    rw [← hcb] at HCB
    obtain ⟨cc, hcd⟩ : ∃ cc, cc = orE ca cb := ⟨_, rfl⟩
    have hor := fun W b h => orE_any ca cb b W h
    rw [← hcd] at e hc hor
    have hcz : (cc != 0) = true := by simpa using hc
    have E := Lib.hid e; have HOR := Lib.hid hor
    clear e hc hcc hca hcb hcd hor
    go_enter Tryz.func156, Tryz.ntmps156
    go_wp2_with fail
    have hmx : Tryz.prog.follows .mixedOrders = true := by kernel_rfl
    go_region_held3 (fun W => (Blk W w.heap.size #[.bool s1, .slice a1 l1.length c1, .slice a2 l2.length c2] 62 ∧ W.cell? ⟨w.heap.size, 0, none⟩ = some (.bool s1) ∧ W.cell? ⟨w.heap.size, 1, none⟩ = some (.slice a1 l1.length c1) ∧ W.cell? ⟨w.heap.size, 2, none⟩ = some (.slice a2 l2.length c2)) ∧ (Blk W (w.heap.size + 1) #[.bool s2, .slice a3 l3.length c3, .slice a4 l4.length c4] 62 ∧ W.cell? ⟨w.heap.size + 1, 0, none⟩ = some (.bool s2) ∧ W.cell? ⟨w.heap.size + 1, 1, none⟩ = some (.slice a3 l3.length c3) ∧ W.cell? ⟨w.heap.size + 1, 2, none⟩ = some (.slice a4 l4.length c4)))
      ((refine ⟨Blk.s3 ?_, Blk.s3 ?_⟩ <;> (repeat (first | exact A0.out | exact A1.out | exact k1 | exact k2 | exact k4 | exact k5 | exact k7 | exact k8 | refine Blk.setOther ?_ (by dsimp only; omega) _ | refine Blk.alloc ?_ _ | refine Blk.drew ?_))))
      (first | (go_at_call_of 154 (Value.slice a1 l1.length c1); refine (HCA.out _ (by (repeat (first | (with_reducible exact Ext.refl _) | (with_reducible assumption) | (with_reducible refine Ext.alloc ?_ _) | ((with_reducible refine Ext.setp ?_ ?_); focus (dsimp only; omega)) | (with_reducible refine Ext.drew ?_) | (with_reducible refine Ext.drewN ?_ _) | (with_reducible refine Ext.trans ?_ (by assumption)))))).mono ?_; rintro e W4 ⟨rfl, hx4⟩; have x4 := Ext.trans x0 (Ext.trans (by (repeat (first | (with_reducible exact Ext.refl _) | (with_reducible assumption) | (with_reducible refine Ext.alloc ?_ _) | ((with_reducible refine Ext.setp ?_ ?_); focus (dsimp only; omega)) | (with_reducible refine Ext.drew ?_) | (with_reducible refine Ext.drewN ?_ _) | (with_reducible refine Ext.trans ?_ (by assumption))))) hx4); have k1 := A0.out.ext (Ext.trans (by (repeat (first | (with_reducible exact Ext.refl _) | (with_reducible assumption) | (with_reducible refine Ext.alloc ?_ _) | ((with_reducible refine Ext.setp ?_ ?_); focus (dsimp only; omega)) | (with_reducible refine Ext.drew ?_) | (with_reducible refine Ext.drewN ?_ _) | (with_reducible refine Ext.trans ?_ (by assumption))))) hx4); have k2 := A1.out.ext (Ext.trans (by (repeat (first | (with_reducible exact Ext.refl _) | (with_reducible assumption) | (with_reducible refine Ext.alloc ?_ _) | ((with_reducible refine Ext.setp ?_ ?_); focus (dsimp only; omega)) | (with_reducible refine Ext.drew ?_) | (with_reducible refine Ext.drewN ?_ _) | (with_reducible refine Ext.trans ?_ (by assumption))))) hx4)) | (go_at_call_of 154 (Value.slice a3 l3.length c3); refine (HCB.out _ (by (repeat (first | (with_reducible exact Ext.refl _) | (with_reducible assumption) | (with_reducible refine Ext.alloc ?_ _) | ((with_reducible refine Ext.setp ?_ ?_); focus (dsimp only; omega)) | (with_reducible refine Ext.drew ?_) | (with_reducible refine Ext.drewN ?_ _) | (with_reducible refine Ext.trans ?_ (by assumption)))))).mono ?_; rintro e W5 ⟨rfl, hx5⟩; have x5 := x4.trans hx5; have k4 := k1.ext hx5; have k5 := k2.ext hx5) | (go_at_call 186; refine (HOR.out _ _ (Blk.new W5 _ _)).mono ?_; rintro e W6 ⟨rfl, hx6⟩; have x6 := (x5.alloc _).trans hx6; have k7 := (k4.alloc _).ext hx6; have k8 := (k5.alloc _).ext hx6))
    go_wp2_with fail
    go_ret2
    exact ⟨by rw [E.out]; rfl, x6⟩

end Go.Proofs.YthkfkfbfblppeaaGreat

/- Plain laws: Cmp, Abs and Floor of rational numbers beside Lean's own order. Conditions: as each states. -/
namespace Go.Proofs.YthkfkfbfblppeaaGreat
set_option linter.unusedSimpArgs false
set_option linter.unusedVariables false

theorem cmpQ_lt {x y : Rat} (h : x < y) : cmpQ x y = -1 := by unfold cmpQ; rw [if_pos h]
theorem cmpQ_eq (x : Rat) : cmpQ x x = 0 := by unfold cmpQ; rw [if_neg Rat.lt_irrefl, if_pos rfl]
theorem rat_asymm {x y : Rat} (h : x < y) : ¬ y < x := Rat.not_lt.2 (Rat.le_of_lt h)
theorem rat_ne {x y : Rat} (h : x < y) : x ≠ y := fun e => by rw [e] at h; exact Rat.lt_irrefl h
theorem cmpQ_gt {x y : Rat} (h : y < x) : cmpQ x y = 1 := by unfold cmpQ; rw [if_neg (rat_asymm h), if_neg (fun e => rat_ne h e.symm)]
theorem rat_tri (x y : Rat) : x < y ∨ x = y ∨ y < x := by
  by_cases h1 : x < y
  · exact .inl h1
  · by_cases h2 : y < x
    · exact .inr (.inr h2)
    · exact .inr (.inl (Rat.le_antisymm (Rat.not_lt.1 h2) (Rat.not_lt.1 h1)))
theorem rat_trans {x y z : Rat} (h1 : x < y) (h2 : y < z) : x < z := by
  rcases rat_tri x z with h | h | h
  · exact h
  · subst h; exact absurd h2 (rat_asymm h1)
  · have h3 : z ≤ y := Rat.le_trans (Rat.le_of_lt h) (Rat.le_of_lt h1)
    exact absurd h2 (Rat.not_lt.2 h3)
theorem cmpQ_cases (x y : Rat) : (x < y ∧ cmpQ x y = -1) ∨ (x = y ∧ cmpQ x y = 0) ∨ (y < x ∧ cmpQ x y = 1) := by
  rcases rat_tri x y with h | h | h
  · exact .inl ⟨h, cmpQ_lt h⟩
  · subst h; exact .inr (.inl ⟨rfl, cmpQ_eq x⟩)
  · exact .inr (.inr ⟨h, cmpQ_gt h⟩)
theorem cmpQ_bd (x y : Rat) : -1 ≤ cmpQ x y ∧ cmpQ x y ≤ 1 := by
  rcases cmpQ_cases x y with ⟨_, h⟩ | ⟨_, h⟩ | ⟨_, h⟩ <;> rw [h] <;> decide
theorem cmpQ_swap (x y : Rat) : cmpQ y x = - cmpQ x y := by
  rcases rat_tri x y with h | h | h
  · rw [cmpQ_lt h, cmpQ_gt h]; rfl
  · subst h; rw [cmpQ_eq]; rfl
  · rw [cmpQ_lt h, cmpQ_gt h]
theorem rep_inj {x y : Rat} (h : rep x = rep y) : x = y := by rw [← qv_rep x, h, qv_rep]
theorem cmpQ_zero (x y : Rat) : (cmpQ x y == 0) = decide (rep x = rep y) := by
  rcases rat_tri x y with h | h | h
  · rw [cmpQ_lt h, decide_eq_false (fun e => rat_ne h (rep_inj e))]; rfl
  · subst h; rw [cmpQ_eq, decide_eq_true rfl]; rfl
  · rw [cmpQ_gt h, decide_eq_false (fun e => rat_ne h (rep_inj e).symm)]; rfl
theorem cmpQ_trans {x y z : Rat} (h : cmpQ x y = cmpQ y z) : cmpQ x z = cmpQ x y := by
  rcases rat_tri x y with h1 | h1 | h1
  · rw [cmpQ_lt h1] at h ⊢
    rcases rat_tri y z with h2 | h2 | h2
    · exact cmpQ_lt (rat_trans h1 h2)
    · subst h2; rw [cmpQ_eq] at h; exact absurd h (by decide)
    · rw [cmpQ_gt h2] at h; exact absurd h (by decide)
  · subst h1; exact h.symm
  · rw [cmpQ_gt h1] at h ⊢
    rcases rat_tri y z with h2 | h2 | h2
    · rw [cmpQ_lt h2] at h; exact absurd h (by decide)
    · subst h2; rw [cmpQ_eq] at h; exact absurd h (by decide)
    · exact cmpQ_gt (rat_trans h2 h1)
theorem cmpQ_add (x y z : Rat) : cmpQ (x + z) (y + z) = cmpQ x y := by
  rcases rat_tri x y with h | h | h
  · rw [cmpQ_lt h, cmpQ_lt (Rat.add_lt_add_right.2 h)]
  · subst h; rw [cmpQ_eq, cmpQ_eq]
  · rw [cmpQ_gt h, cmpQ_gt (Rat.add_lt_add_right.2 h)]
theorem mul_neg_lt {x y z : Rat} (h : x < y) (hz : z < 0) : y * z < x * z := by
  have hz' : 0 < -z := by
    have := Rat.add_lt_add_right (a := z) (b := 0) (c := -z)
    rw [Rat.add_neg_cancel, Rat.zero_add] at this
    exact this.2 hz
  have h1 := Rat.mul_lt_mul_of_pos_right h hz'
  rw [Rat.mul_neg, Rat.mul_neg] at h1
  have h2 := (Rat.add_lt_add_right (a := -(x * z)) (b := -(y * z)) (c := x * z + y * z)).2 h1
  have e1 : -(x * z) + (x * z + y * z) = y * z := by rw [← Rat.add_assoc, Rat.neg_add_cancel, Rat.zero_add]
  have e2 : -(y * z) + (x * z + y * z) = x * z := by rw [Rat.add_comm (x * z), ← Rat.add_assoc, Rat.neg_add_cancel, Rat.zero_add]
  rwa [e1, e2] at h2
theorem cmpQ_mul (x y z : Rat) : cmpQ (x * z) (y * z) = cmpQ x y * cmpQ z 0 := by
  rcases rat_tri z 0 with hz | hz | hz
  · rw [cmpQ_lt hz]
    rcases rat_tri x y with h | h | h
    · rw [cmpQ_lt h, cmpQ_gt (mul_neg_lt h hz)]; rfl
    · subst h; rw [cmpQ_eq, cmpQ_eq]; rfl
    · rw [cmpQ_gt h, cmpQ_lt (mul_neg_lt h hz)]; rfl
  · subst hz
    rw [Rat.mul_zero, Rat.mul_zero, cmpQ_eq, Int.mul_zero]
  · rw [cmpQ_gt hz, Int.mul_one]
    rcases rat_tri x y with h | h | h
    · rw [cmpQ_lt h, cmpQ_lt (Rat.mul_lt_mul_of_pos_right h hz)]
    · subst h; rw [cmpQ_eq, cmpQ_eq]
    · rw [cmpQ_gt h, cmpQ_gt (Rat.mul_lt_mul_of_pos_right h hz)]

/-- The absolute value. -/
def absQ (x : Rat) : Rat := if x < 0 then -x else x
theorem neg_le0 {x : Rat} (h : x < 0) : 0 < -x := by
  have := Rat.add_lt_add_right (a := x) (b := 0) (c := -x)
  rw [Rat.add_neg_cancel, Rat.zero_add] at this
  exact this.2 h
theorem le_absQ (x : Rat) : x ≤ absQ x ∧ -x ≤ absQ x := by
  unfold absQ
  by_cases h : x < 0
  · rw [if_pos h]
    exact ⟨Rat.le_of_lt (rat_trans h (neg_le0 h)), Rat.le_refl⟩
  · rw [if_neg h]
    refine ⟨Rat.le_refl, ?_⟩
    have h0 : 0 ≤ x := Rat.not_lt.1 h
    refine Rat.not_lt.1 fun g => ?_
    have h1 := (Rat.add_lt_add_right (a := x) (b := -x) (c := x)).2 g
    rw [Rat.neg_add_cancel] at h1
    have h2 : (0 : Rat) ≤ x + x := by
      have := Rat.add_le_add_right (a := 0) (b := x) (c := x)
      rw [Rat.zero_add] at this
      exact Rat.le_trans h0 (this.2 h0)
    exact absurd h1 (Rat.not_lt.2 h2)
theorem add_le2 {a b c d : Rat} (h1 : a ≤ c) (h2 : b ≤ d) : a + b ≤ c + d :=
  Rat.le_trans (Rat.add_le_add_right.2 h1) (Rat.add_le_add_left.2 h2)
theorem tri_absQ (x y : Rat) : cmpQ (absQ (x + y)) (absQ x + absQ y) ≤ 0 := by
  have h : absQ (x + y) ≤ absQ x + absQ y := by
    obtain ⟨a1, a2⟩ := le_absQ x
    obtain ⟨b1, b2⟩ := le_absQ y
    have h1 := add_le2 a1 b1
    have h2 := add_le2 a2 b2
    rw [← Rat.neg_add] at h2
    show (if x + y < 0 then -(x + y) else x + y) ≤ _
    split
    · exact h2
    · exact h1
  rcases cmpQ_cases (absQ (x + y)) (absQ x + absQ y) with ⟨_, g⟩ | ⟨_, g⟩ | ⟨k, g⟩
  · rw [g]; decide
  · rw [g]; decide
  · exact absurd k (Rat.not_lt.2 h)
theorem rep_abs (x : Rat) : (⟨false, (rep x).num, (rep x).den⟩ : RR) = rep (absQ x) := by
  unfold absQ
  by_cases h : x < 0
  · rw [if_pos h]
    have hn : 0 ≤ (-x).num := Rat.num_nonneg.2 (Rat.le_of_lt (neg_le0 h))
    unfold rep
    rw [decide_eq_false (by omega : ¬ (-x).num < 0), Rat.neg_num, Rat.neg_den, Int.natAbs_neg]
  · rw [if_neg h]
    have hn : 0 ≤ x.num := Rat.num_nonneg.2 (Rat.not_lt.1 h)
    unfold rep
    rw [decide_eq_false (by omega : ¬ x.num < 0)]
theorem bd_abs {x : Rat} {k : Nat} (h : bd x k) : bd (absQ x) k := by
  unfold absQ
  split
  · exact bd_neg h
  · exact h
theorem cmp_rep {a b : Rat} (ha : small a) (hb : small b) : cmpR (rep a) (rep b) = (cmpQ a b, 0) := by
  unfold cmpR
  rw [if_pos (chkR2_ok (chk_rep ha) (chk_rep hb)), qv_rep, qv_rep]
theorem abs_rep {a : Rat} (ha : small a) : absR (rep a) = (rep (absQ a), 0) := by
  unfold absR
  rw [if_pos (chk_rep ha), rep_abs]
theorem small_int {n : Int} (h0 : -9223372036854775808 ≤ n) (h1 : n ≤ 9223372036854775807) : small (n : Rat) := by
  refine small_of_bd (k := 2) ⟨?_, ?_⟩ (by decide)
  · rw [Rat.num_intCast]; omega
  · rw [Rat.den_intCast]; decide
theorem floor_rep {a : Rat} (ha : small a) : floorR (rep a) = (0, 7) ∨ (floorR (rep a) = (a.floor, 0) ∧ -9223372036854775808 ≤ a.floor ∧ a.floor ≤ 9223372036854775807) := by
  unfold floorR
  rw [if_pos (chk_rep ha), qv_rep]
  by_cases h : -9223372036854775808 ≤ a.floor ∧ a.floor ≤ 9223372036854775807
  · right; rw [if_pos h]; exact ⟨rfl, h⟩
  · left; rw [if_neg h]
theorem cmp_floor (a : Rat) : cmpQ (a.floor : Rat) a ≤ 0 ∧ cmpQ a ((a.floor + 1 : Int) : Rat) = -1 := by
  refine ⟨?_, cmpQ_lt (Rat.lt_floor_add_one a)⟩
  rcases cmpQ_cases (a.floor : Rat) a with ⟨_, g⟩ | ⟨_, g⟩ | ⟨k, g⟩
  · rw [g]; decide
  · rw [g]; decide
  · exact absurd k (Rat.not_lt.2 (Rat.floor_le a))

end Go.Proofs.YthkfkfbfblppeaaGreat
